/- Part 28. -/
import Derived.Test.YtclejblcnfaeaaaGreatDoorPaw
import Derived.Test.YtclejblcnfaeaaaGreatDoorPax
import Derived.Test.YtclejblcnfaeaaaGreatDoorPaz
import Derived.Test.YtclejblcnfaeaaaGreatDoorPba
set_option linter.all false
section
namespace Go.Proofs.YtclejblcnfaeaaaGreatDoor.W
open Go Go.Pal Go.Conc View
open Go.Proofs.Tryz
open Go.Sort (swp PermIn SortedIn Below SWO)
set_option maxHeartbeats 4000000
section
variable{mn:Who}{v:View}{cap:Nat}{ζ:ZT}
structure PQ where
 x:Nat
 y:Nat
 lim:Nat
 wb:Bool
 wp:Bool
 d:Array E
 c:Array Value
def PdqS(mn:Who)(ζ:ZT)(cap N:Nat):Prop:=∀{v:View} {d:Array E} {c:Array Value} {b x y lim:Nat},zAt ζ v→y-x<N→DBz ζ cap d c→d.size<8192→x≤y→y≤d.size→lim<2^30→Below (ltE ζ) x y d→
 CallsB prog mn 217 #[slV b d.size cap,natV x,natV y,natV lim,cmV ζ] (RetB fun r β'=>r = .tuple #[]∧SBox ζ cap b (fun d'=>d'.size=d.size∧PermIn x y d d'∧SortedIn (ltE ζ) x y d') β') [(b,c,tE)] v
theorem zkk_pdq_step{p:Prop}(k:p:=by
 have hle:=hD.le
 refine A0d tab u217 Y nB (args:=[_,_,_,_,_]) ?_
 refine ru ?_
 refine A1q (α:=PQ) (fun z=>⟨[],[(0,slV b d.size cap),(1,natV z.x),(2,natV z.y),(4,cmV ζ),(3,natV z.lim),(10,.bool z.wb),(11,.bool z.wp)],[(b,z.c,tE)]⟩)
  (fun z w=>w=v∧DBz ζ cap z.d z.c∧z.d.size=d.size∧x≤z.x∧z.x≤z.y∧z.y≤y∧z.lim<2^30∧Below (ltE ζ) z.x z.y z.d∧∀R,PermIn z.x z.y z.d R→SortedIn (ltE ζ) z.x z.y R→PermIn x y d R∧SortedIn (ltE ζ) x y R) (fun z=>z.y-z.x) ⟨x,y,lim,true,true,d,c⟩
  ⟨Y,rg,cntL⟩ (Le.refl _) ⟨Y,hD,Y,Nat.le_refl _,hxy,Nat.le_refl _,hlim,hB,fun R h1 h2=>⟨h1,h2⟩⟩ ?_
 rintro⟨x1,y1,lim1,wb,wp,d1,c1⟩ v ⟨rfl,hD1,hs1,hx1,hxy1,hy1,hl1,hB1,hR1⟩
 simp only at hD1 hs1 hx1 hxy1 hy1 hl1 hB1 hR1
 dsimp only
 obtain⟨l,hl⟩:∃l,l=y1-x1:=⟨_,rfl⟩
 refine ru ?_
 refine A4i ?_
 refine ru ?_
 rw [show((y1:Int)-(x1:Int))=(l:Int) by omega]
 by_cases h12:l≤12
 ·rw [show decide ((l:Int)≤12)=true from decide_eq_true oM]
  refine ru ?_
  refine Q_op fun ho=>A0o [(b,c1,tE)] [] ho w236 Y Y Y Y Y cntA (by rw [←hs1];exact B1w (zat hP) hD1 oM oM oM) (fun x β' hR=>?_)
  clear ho
  obtain⟨rfl,d2,c2,rfl,hD2,hs2,hp2⟩:=hR
  rw [List.append_nil]
  refine ru ?_
  refine A0f tab [(b,c2,tE)] .nil (Back.here cntL) ?_
  have hh:=Go.Sort.insertionSort_holds (swoE ζ) d1 x1 y1 hxy1 oM
  rw [←hp2]at hh
  exact⟨Y,d2,c2,Y,hD2,oM,hR1 d2 hh.1 hh.2⟩
 rw [show decide ((l:Int)≤12)=false from decide_eq_false oM]
 refine ru ?_
 refine A4i ?_
 refine ru ?_
 by_cases h0:lim1=0
 ·rw [show((lim1:Int)==0)=true from by simp;omega]
  refine ru ?_
  refine Q_op fun ho=>A0o [(b,c1,tE)] [] ho w237 Y Y Y Y Y cntA (by rw [←hs1];exact heap_x (zat hP) hD1 oM oM oM) (fun x β' hR=>?_)
  clear ho
  obtain⟨rfl,d2,c2,rfl,hD2,hs2,hp2⟩:=hR
  rw [List.append_nil]
  refine ru ?_
  refine A0f tab [(b,c2,tE)] .nil (Back.here cntL) ?_
  have hh:=Go.Sort.heapSort_holds (swoE ζ) d1 x1 y1 hxy1 oM
  rw [←hp2]at hh
  exact⟨Y,d2,c2,Y,hD2,oM,hR1 d2 hh.1 hh.2⟩
 rw [show((lim1:Int)==0)=false from by simp;omega]
 refine ru ?_
 -- breakPatterns
 refine A6q (fun τ w=>w=v∧∃(lim2:Nat) (d2:Array E) (c2:Array Value),τ=⟨[],[(0,slV b d.size cap),(1,natV x1),(2,natV y1),(4,cmV ζ),(3,natV lim2),(10,.bool wb),(11,.bool wp),(12,natV l)],[(b,c2,tE)]⟩∧DBz ζ cap d2 c2∧d2.size=d.size∧lim2<2^30∧PermIn x1 y1 d1 d2) ?hc1 ?hs1
 case hs1=>
  refine A4i ?_
  refine ru ?_
  cases wb with
  | true=>
   refine ru ?_
   exact A0b ⟨_,v,⟨Y,lim1,d1,c1,Y,hD1,hs1,hl1,Go.Sort.permIn_refl _ _ _⟩,⟨Y,rg,cntL⟩,Le.refl _⟩
  | false=>
   refine ru ?_
   refine Q_op fun ho=>A0o [(b,c1,tE)] [] ho w238 Y Y Y Y Y cntA (by rw [←hs1];exact break_x hD1 oM oM oM oM) (fun x β' hR=>?_)
   clear ho
   obtain⟨rfl,d2,c2,rfl,hD2,hs2,hp2⟩:=hR
   rw [List.append_nil]
   refine ru ?_
   refine A0b ⟨_,v,⟨Y,lim1-1,d2,c2,Y,hD2,oM,oM,hp2⟩,⟨Y,?_,cntL⟩,Le.refl _⟩
   refine⟨Y,Y,Y,Y,?_,rg⟩
   show some (Value.int .i64 ((lim1:Int)-1))=some (Value.int .i64 ((lim1-1:Nat):Int))
   congr 2;omega
 rintro _ v ⟨rfl,lim2,d2,c2,rfl,hD2,hs2,hl2,hp2⟩
 have hB2:=Go.Sort.Below.permA Go.Sort.permIn_all oM hB1 hp2
 refine ru ?_
 refine Q_op fun ho=>A0o [(b,c2,tE)] [] ho w239 Y Y Y Y Y cntA (by rw [←hs2];exact pivot_x (zat hP) hD2 oM oM oM) (fun x β' hR=>?_)
 clear ho
 obtain⟨⟨k,h,hk,hh,rfl⟩,rfl⟩:=hR
 rw [List.append_nil]
 refine ru ?_
 -- the hint
 refine A6q (fun τ w=>w=v∧∃(k h:Nat) (d3:Array E) (c3:Array Value),τ=⟨[],[(0,slV b d.size cap),(1,natV x1),(2,natV y1),(4,cmV ζ),(3,natV lim2),(10,.bool wb),(11,.bool wp),(12,natV l),(13,natV k),(14,natV h)],[(b,c3,tE)]⟩∧DBz ζ cap d3 c3∧d3.size=d.size∧(x1≤k∧k<y1)∧PermIn x1 y1 d2 d3) ?hc2 ?hs2
 case hs2=>
  refine A4i ?_
  refine ru ?_
  by_cases h2:h=2
  ·subst h2
   rw [show(((2:Nat):Int)==2)=true from rfl]
   refine ru ?_
   refine Q_op fun ho=>A0o [(b,c2,tE)] [] ho w240 Y Y Y Y Y cntA (by rw [←hs2];exact reverse_x hD2 oM oM oM) (fun x β' hR=>?_)
   clear ho
   obtain⟨rfl,d3,c3,rfl,hD3,hp3⟩:=hR
   rw [List.append_nil]
   refine ru ?_
   refine A0b ⟨_,v,⟨Y,y1-1-(k-x1),1,d3,c3,Y,hD3,by rw [hp3.1];exact hs2,oM,hp3⟩,⟨Y,?_,cntL⟩,Le.refl _⟩
   refine⟨Y,Y,Y,Y,Y,Y,Y,Y,?_,rg⟩
   show some (Value.int .i64 ((y1:Int)-1-((k:Int)-(x1:Int))))=some (Value.int .i64 ((y1-1-(k-x1):Nat):Int))
   congr 2;omega
  ·rw [show((h:Int)==2)=false from by simp;omega]
   refine ru ?_
   exact A0b ⟨_,v,⟨Y,k,h,d2,c2,Y,hD2,hs2,hk,Go.Sort.permIn_refl _ _ _⟩,⟨Y,rg,cntL⟩,Le.refl _⟩
 clear hk hh h k
 rintro _ v ⟨rfl,k,h,d3,c3,rfl,hD3,hs3,hk,hp3⟩
 have hB3:=Go.Sort.Below.permA Go.Sort.permIn_all oM hB2 hp3
 have hp13:=Go.Sort.permIn_trans _ _ _ _ _ hp2 hp3
 -- partialInsertionSort
 refine A6q (fun τ w=>w=v∧∃(d4:Array E) (c4:Array Value),τ=⟨[],[(0,slV b d.size cap),(1,natV x1),(2,natV y1),(4,cmV ζ),(3,natV lim2),(10,.bool wb),(11,.bool wp),(12,natV l),(13,natV k)],[(b,c4,tE)]⟩∧DBz ζ cap d4 c4∧d4.size=d.size∧PermIn x1 y1 d3 d4) ?hc3 ?hs3
 case hs3=>
  refine A4i ?_
  by_cases hgo:wb=true∧wp=true∧h=1
  ·obtain⟨rfl,rfl,rfl⟩:=hgo
   refine ru ?_
   refine Q_op fun ho=>A0o [(b,c3,tE)] [] ho w241 Y Y Y Y Y cntA (by rw [←hs3];exact partial_x (zat hP) hD3 oM oM oM) (fun x β' hR=>?_)
   clear ho
   obtain⟨rfl,d4,c4,rfl,hD4,hs4,hp4⟩:=hR
   rw [List.append_nil]
   have hh:=Go.Sort.partialInsertionSort_holds (swoE ζ) d3 x1 y1 oM oM hB3
   rw [←hp4]at hh
   cases hb:(Go.Sort.partialInsertionSort (ltE ζ) d3 x1 y1).2 with
   | true=>
    refine ru ?_
    refine A0f tab [(b,c4,tE)] .nil (Back.here cntL) ?_
    exact⟨Y,d4,c4,Y,hD4,oM,hR1 d4 (Go.Sort.permIn_trans _ _ _ _ _ hp13 hh.1) (hh.2 hb)⟩
   | false=>
    refine ru ?_
    exact A0b ⟨_,v,⟨Y,d4,c4,Y,hD4,oM,hh.1⟩,⟨Y,rg,cntL⟩,Le.refl _⟩
  ·cases wb with
   | false=>
    refine ru ?_
    exact A0b ⟨_,v,⟨Y,d3,c3,Y,hD3,hs3,Go.Sort.permIn_refl _ _ _⟩,⟨Y,rg,cntL⟩,Le.refl _⟩
   | true=>
    cases wp with
    | false=>
     refine ru ?_
     exact A0b ⟨_,v,⟨Y,d3,c3,Y,hD3,hs3,Go.Sort.permIn_refl _ _ _⟩,⟨Y,rg,cntL⟩,Le.refl _⟩
    | true=>
     refine ru ?_
     have hne:h≠1:=fun e=>hgo ⟨Y,Y,e⟩
     rw [show((h:Int)==1)=false from by simp;omega]
     refine ru ?_
     exact A0b ⟨_,v,⟨Y,d3,c3,Y,hD3,hs3,Go.Sort.permIn_refl _ _ _⟩,⟨Y,rg,cntL⟩,Le.refl _⟩
 rintro _ v ⟨rfl,d4,c4,rfl,hD4,hs4,hp4⟩
 have hB4:=Go.Sort.Below.permA Go.Sort.permIn_all oM hB3 hp4
 have hp14:=Go.Sort.permIn_trans _ _ _ _ _ hp13 hp4
 clear hB1 hB2 hB3 hp2 hp3 hp4 hp13 hD1 hD2 hD3
 -- partitionEqual?
 refine A6q (fun τ w=>w=v∧τ=⟨[],[(0,slV b d.size cap),(1,natV x1),(2,natV y1),(4,cmV ζ),(3,natV lim2),(10,.bool wb),(11,.bool wp),(12,natV l),(13,natV k)],[(b,c4,tE)]⟩) ?hc4 ?hs4
 case hs4=>
  refine A4i ?_
  refine ru ?_
  refine lexL A1e Y kR ?_
  refine su ?_
  by_cases hx0:0<x1
  ·rw [show decide ((x1:Int) > 0)=true from decide_eq_true oM]
   refine su ?_
   refine A1m tab (x1-1) Y Y Y Y oM Y Y oM ?_
   refine A1j tab Y Y Y InB.head (hD4.rdE oM) ?_
   refine su ?_
   refine A1m tab k Y Y Y Y oM Y Y oM ?_
   refine A1j tab Y Y Y InB.head (hD4.rdE oM) ?_
   refine su ?_
   refine A2w w165 Y Y Y Y Y (A1z (zat hP) (hD4.ok oM) (hD4.ok oM)) ?_
   refine su ?_
   cases hlt:ltE ζ d4[x1-1]! d4[k]! with
   | true=>
    rw [show decide (cmE ζ d4[x1-1]! d4[k]! < 0)=true from hlt]
    refine ru ?_
    exact A0b ⟨_,v,⟨Y,Y⟩,⟨Y,rg,cntL⟩,Le.refl _⟩
   | false=>
    rw [show decide (cmE ζ d4[x1-1]! d4[k]! < 0)=false from hlt]
    refine ru ?_
    refine Q_op fun ho=>A0o [(b,c4,tE)] [] ho w242 Y Y Y Y Y cntA (by rw [←hs4];exact partEq_x (zat hP) hD4 oM hk.1 hk.2 oM) (fun x β' hR=>?_)
    clear ho
    obtain⟨rfl,d5,c5,rfl,hD5,hs5,hp5⟩:=hR
    rw [List.append_nil]
    obtain⟨m,hm⟩:∃m,m=(Go.Sort.partitionEqual (ltE ζ) d4 x1 y1 k).1:=⟨_,rfl⟩
    rw [←hm]
    obtain⟨q1,q2,q3,q4,q5⟩:=Go.Sort.round_eq (swoE ζ) (Go.Sort.partitionEqual_holds _) hx0 hk.1 hk.2 oM hB4 hlt (mid:=m) (d4:=d5) (by rw [hm,hp5])
    refine ru ?_
    refine A0b ⟨⟨m,y1,lim2,wb,wp,d5,c5⟩,v,by simp only;omega,⟨Y,rg,cntL⟩,Le.refl _,Y,hD5,by simp only;omega,by simp only;omega,q2,hy1,hl2,q4,fun R r1 r2=>?_⟩
    obtain⟨r3,r4⟩:=q5 R r1 r2
    exact hR1 R (Go.Sort.permIn_trans _ _ _ _ _ hp14 r3) r4
  ·rw [show decide ((x1:Int) > 0)=false from decide_eq_false oM]
   refine ru ?_
   exact A0b ⟨_,v,⟨Y,Y⟩,⟨Y,rg,cntL⟩,Le.refl _⟩
 rintro _ v ⟨rfl,rfl⟩
 refine ru ?_
 refine Q_op fun ho=>A0o [(b,c4,tE)] [] ho w243 Y Y Y Y Y cntA (by rw [←hs4];exact part_x (zat hP) hD4 oM hk.1 hk.2 oM) (fun x β' hR=>?_)
 clear ho
 obtain⟨rfl,d5,c5,rfl,hD5,hs5,hp5⟩:=hR
 rw [List.append_nil]
 obtain⟨m,hm⟩:∃m,m=(Go.Sort.partition (ltE ζ) d4 x1 y1 k).1:=⟨_,rfl⟩
 obtain⟨ap,hap⟩:∃ap,ap=(Go.Sort.partition (ltE ζ) d4 x1 y1 k).2.1:=⟨_,rfl⟩
 rw [←hm,←hap]
 obtain⟨q1,q2,q3,q4,q5,q6,q7⟩:=Go.Sort.round_part (swoE ζ) (Go.Sort.partition_holds _) hk.1 hk.2 oM hB4 (mid:=m) (d4:=d5) (ap:=ap) (by rw [hm,hap,hp5])
 refine ru ?_
 by_cases hlr:m-x1<y1-m
 ·rw [show decide ((m:Int)-(x1:Int)<(y1:Int)-(m:Int))=true from decide_eq_true oM]
  refine ru ?_
  refine Q_op fun ho=>A0o [(b,c5,tE)] [] ho w217 Y Y Y Y Y cntA (by rw [show d.size=d5.size by omega];exact IH (x:=x1) (y:=m) (zat hP) oM hD5 oM q1 oM hl2 q4) (fun x β' hR=>?_)
  clear ho
  obtain⟨rfl,d6,c6,rfl,hD6,hs6,hp6,hso6⟩:=hR
  rw [List.append_nil]
  obtain⟨r1,r2⟩:=q6 d6 hp6 hso6
  refine ru ?_
  refine A0b ⟨⟨m+1,y1,lim2,_,ap,d6,c6⟩,v,by simp only;omega,⟨Y,rg,cntL⟩,Le.refl _,Y,hD6,by simp only;omega,by simp only;omega,q2,hy1,hl2,r1,fun R t1 t2=>?_⟩
  obtain⟨r3,r4⟩:=r2 R t1 t2
  exact hR1 R (Go.Sort.permIn_trans _ _ _ _ _ hp14 r3) r4
 ·rw [show decide ((m:Int)-(x1:Int)<(y1:Int)-(m:Int))=false from decide_eq_false oM]
  refine ru ?_
  refine Q_op fun ho=>A0o [(b,c5,tE)] [] ho w217 Y Y Y Y Y cntA (by rw [show d.size=d5.size by omega];exact IH (x:=m+1) (y:=y1) (zat hP) oM hD5 oM q2 oM hl2 q5) (fun x β' hR=>?_)
  clear ho
  obtain⟨rfl,d6,c6,rfl,hD6,hs6,hp6,hso6⟩:=hR
  rw [List.append_nil]
  obtain⟨r1,r2⟩:=q7 d6 hp6 hso6
  refine ru ?_
  refine A0b ⟨⟨x1,m,lim2,_,ap,d6,c6⟩,v,by simp only;omega,⟨Y,rg,cntL⟩,Le.refl _,Y,hD6,by simp only;omega,hx1,q1,by simp only;omega,hl2,r1,fun R t1 t2=>?_⟩
  obtain⟨r3,r4⟩:=r2 R t1 t2
  exact hR1 R (Go.Sort.permIn_trans _ _ _ _ _ hp14 r3) r4):p:=k
theorem pdq_step{N:Nat}(IH:PdqS mn ζ cap N):PdqS mn ζ cap (N+1):=by
 intro v d c b x y lim hP hN hD h256 hxy hy hlim hB
 exact zkk_pdq_step
theorem pdq_x:∀N,PdqS mn ζ cap N
 | 0=>fun _ h=>absurd h (Nat.not_lt_zero _)
 | N+1=>pdq_step (pdq_x N)
end
section
variable{mn:Who}{v:View}{cap:Nat}{ζ:ZT}{d:Array E}{c:Array Value}
theorem zkl_sort_x{p:Prop}(k:p:=by
 refine A0d tab u164 Y nB (args:=[_,_]) ?_
 refine su ?_
 rw [wrapU oM]
 refine Q_op fun ho=>A0u ho w137 Y Y Y Y Y (len_x (x:=d.size) h256) ?_
 clear ho
 refine su ?_
 have h8:=(len64_y (mn:=mn) (v:=v) h256).2
 refine Q_op fun ho=>A0o [(b,c,tE)] [] ho w217 Y Y Y Y Y cntA (pdq_x (d.size+1) (zat hP) (x:=0) oM hD h256 (Nat.zero_le _) (Nat.le_refl _) oM (.inl Y)) (fun x β' hR=>?_)
 clear ho
 obtain⟨rfl,d2,c2,rfl,hD2,hs2,hp2⟩:=hR
 rw [List.append_nil]
 refine su ?_
 refine A1o tab [(b,c2,tE)] .nil (Back.here cntL) ?_
 exact⟨Y,d2,c2,Y,hD2,hs2,hp2⟩):p:=k
theorem sort_x{b:Nat}(hP:zAt ζ v)(hD:DBz ζ cap d c)(h256:d.size<8192) :
  CallsB prog mn 164 #[slV b d.size cap,cmV ζ] (RetB fun r β'=>r = .tuple #[]∧∃d' c',β'=[(b,c',175)]∧DBz ζ cap d' c'∧d'.size=d.size∧PermIn 0 d.size d d'∧SortedIn (ltE ζ) 0 d.size d') [(b,c,175)] v:=zkl_sort_x
end
end Go.Proofs.YtclejblcnfaeaaaGreatDoor.W
end
section
namespace Go.Pal
open Go Go.Conc View
section
variable{E:Type}[Inhabited E]{SZ:Nat}{cl:E→List Value}{ok:E→Prop}{cap:Nat}{d:Array E}{c:Array Value}
omit [Inhabited E]in
theorem rowsR_get(hl:∀x:E,(cl x).length=SZ)(l:List E){j i:Nat}(hj:j<l.length)(hi:i<SZ):(l.map cl).flatten[j*SZ+i]?=(cl l[j])[i]?:=by
 rw [flat_get (k:=SZ) (l.map cl) j i (fun y hy=>by obtain⟨z,_,rfl⟩:=List.mem_map.1 hy;exact hl z) hi,List.getElem?_map,List.getElem?_eq_getElem hj]
 rfl
omit [Inhabited E]in
theorem rowsR_len(hl:∀x:E,(cl x).length=SZ)(l:List E):(l.map cl).flatten.length=l.length*SZ:=by
 rw [flat_len (k:=SZ) (l.map cl) (fun y hy=>by obtain⟨z,_,rfl⟩:=List.mem_map.1 hy;exact hl z),List.length_map]
theorem DB.of_own{e:TypeId}{b:Nat}{l:List E}(hl:∀x:E,(cl x).length=SZ)(h:OwnS e SZ [(b,c,e)] (some ⟨b,0,none⟩) l.length cap (l.map cl).flatten)(hk:∀x∈l,ok x):DB SZ cl ok cap l.toArray c:=by
 cases h with
 | box h1 h2 h3 h4=>
  refine⟨h3,h2,hl,fun {i} hi=>?_,fun i hi=>?_⟩
  ·have hi':i<l.length:=by simpa using hi
   rw [getElem!_pos l.toArray i hi]
   exact hk _ sM
  ·have hi':i<l.length:=by simpa using hi
   rw [getElem!_pos l.toArray i hi,List.getElem_toArray]
   have hb:i*SZ+SZ≤c.size:=by
    rw [h3]
    have:(i+1)*SZ≤cap*SZ:=Nat.mul_le_mul_right _ oM
    rw [Nat.add_mul,Nat.one_mul]at this
    exact this
   apply Array.ext_getElem?
   intro q
   rw [Array.getElem?_extract]
   have hlen:(cl l[i]).length=SZ:=hl _
   split
   ·rename_i hq
    have hq3:q<SZ:=oM
    have hg:=rowsR_get hl l hi' hq3
    have hg2:(cl l[i])[q]?=some ((cl l[i])[q]'(by rw [hlen];exact hq3)):=List.getElem?_eq_getElem _
    rw [hg2]at hg
    rw [h4 _ _ hg]
    simp
   ·rename_i hq
    have:(cl l[i]).length≤q:=oM
    simp [List.getElem?_eq_none this]
theorem DB.to_own(e:TypeId)(b:Nat)(hS:0<SZ)(h:DB SZ cl ok cap d c):OwnS e SZ [(b,c,e)] (some ⟨b,0,none⟩) d.size cap (d.toList.map cl).flatten∧∀x∈d.toList,ok x:=by
 refine⟨.box (by rw [rowsR_len h.len];simp) h.le h.size fun i x hx=>?_,fun x hx=>?_⟩
 ·have hlt:i<(d.toList.map cl).flatten.length:=(List.getElem?_eq_some_iff.1 hx).1
  rw [rowsR_len h.len]at hlt
  have hj:i / SZ<d.toList.length:=Nat.div_lt_of_lt_mul (by rw [Nat.mul_comm];exact hlt)
  have hj':i / SZ<d.size:=by simpa using hj
  have he:i=i / SZ*SZ+i % SZ:=by rw [Nat.mul_comm];exact(Nat.div_add_mod i SZ).symm
  have hm:i % SZ<SZ:=Nat.mod_lt _ hS
  rw [he,rowsR_get h.len d.toList hj hm]at hx
  have hg:=congrArg (fun a:Array Value=>a[i % SZ]?) (h.get (i / SZ) hj')
  simp only [Array.getElem?_extract]at hg
  have hb:=h.bound hj'
  rw [if_pos oM]at hg
  rw [he,hg,getElem!_pos d (i / SZ) hj']
  simpa using hx
 ·obtain⟨i,hi,rfl⟩:=List.getElem_of_mem hx
  have hi':i<d.size:=by simpa using hi
  have:=h.ok hi'
  rw [getElem!_pos d i hi']at this
  simpa using this
theorem sort_lists{lt:E→E→Bool}{d':Array E}(hp:Go.Sort.PermIn 0 d.size d d')(hs:Go.Sort.SortedIn lt 0 d.size d'):d'.toList.Perm d.toList∧d'.toList.Pairwise fun x y=>lt y x=false:=by
 have hsz:=hp.1
 refine⟨?_,List.pairwise_iff_getElem.2 fun i j hi hj hij=>?_⟩
 ·have:=hp.2.2
  have e1:d'.extract 0 d.size=d':=by rw [←hsz];simp
  have e2:d.extract 0 d.size=d:=by simp
  rwa [e1,e2]at this
 ·have h1:=hs i j (Nat.zero_le _) hij (by simpa [hsz]using hj)
  rw [getElem!_pos d' i (by simpa using hi),getElem!_pos d' j (by simpa using hj)]at h1
  simpa using h1
end
end Go.Pal
end
section
namespace Go.Proofs.YtclejblcnfaeaaaGreatDoor
open Go Go.Pal Go.Pal.To Go.Conc View
open Go.Proofs.Tryz
set_option maxHeartbeats 4000000
set_option maxRecDepth 20000
theorem rows_E{v:View}:∀{ys:List (List Value)} {ws:List Wy},Rows v ys ws→∃l:List W.E,ys=l.map W.cE∧l.map W.E.w=ws∧∀e∈l,RowAt v e.am (e.w.marks.map intV)∧RowAt v e.ab (e.w.book.map MA.cells).flatten
 | _,_,.nil=>⟨[],rfl,rfl,fun e he=>by simp at he⟩
 | _,_,.cons h r=>by
  obtain⟨l,rfl,rfl,hl⟩:=rows_E r
  obtain⟨am,cm,ab,cb,rfl,h1,h2⟩:=h
  refine⟨⟨am,cm,ab,cb,_⟩::l,Y,Y,fun e he=>?_⟩
  rcases List.mem_cons.1 he with rfl|he
  ·exact⟨h1,h2⟩
  ·exact hl e he
theorem E_rows{v:View}:∀{l:List W.E},(∀e∈l,RowAt v e.am (e.w.marks.map intV)∧RowAt v e.ab (e.w.book.map MA.cells).flatten)→Rows v (l.map W.cE) (l.map W.E.w)
 | [],_=>.nil
 | e::l,h=>.cons ⟨e.am,e.cm,e.ab,e.cb,rfl,(h e (List.mem_cons_self ..)).1,(h e (List.mem_cons_self ..)).2⟩ (E_rows fun x hx=>h x (List.mem_cons_of_mem _ hx))
def BestAt(u:View)(x:Value)(k:Nat)(ws:List Wy):Prop:=∃a cap ys,x = .agg (List.toArray [natV k,.slice a ws.length cap])∧RowAt u a ys.flatten∧Rows u ys ws
section
variable{mn:Who}{v:View}
abbrev cmW:Value:=.func (.func 165) #[] #[]
theorem sortW_nil:CallsB prog mn 164 #[.slice none 0 0,cmW] (RetB fun r β'=>r = .tuple #[]∧β'=[]) [] v:=by
 have hins:CallsB prog mn 236 #[.slice none 0 0,.int .i64 (0:Nat),.int .i64 (0:Nat),cmW] (RetB fun r β'=>r = .tuple #[]∧β'=[]) [] v:=by
  refine A0d tab func236 Y nB (args:=[_,_,_,_]) ?_
  refine su ?_
  refine A1q (α:=Unit) (fun z=>⟨[],[(8,.int .i64 1),(2,.int .i64 (0:Nat))],[]⟩) (fun z u=>u=v) (fun _=>0) () ⟨Y,rg,cntL⟩ (Le.refl _) Y ?_
  rintro _ u rfl
  refine su ?_
  refine A1o tab [] .nil (Back.here cntL) ?_
  exact⟨Y,Y⟩
 have hpdq:∀lim:Value,CallsB prog mn 217 #[.slice none 0 0,.int .i64 (0:Nat),.int .i64 (0:Nat),lim,cmW] (RetB fun r β'=>r = .tuple #[]∧β'=[]) [] v:=by
  intro lim
  refine A0d tab func217 Y nB (args:=[_,_,_,_,_]) ?_
  refine su ?_
  refine A1q (α:=Unit) (fun z=>⟨[],[(0,.slice none 0 0),(1,.int .i64 (0:Nat)),(2,.int .i64 (0:Nat)),(3,lim),(4,cmW)],[]⟩)
   (fun z u=>u=v) (fun _=>0) () ⟨Y,rg,cntL⟩ (Le.refl _) Y ?_
  rintro _ u rfl
  refine su ?_
  refine Q_op fun ho=>A0u ho bod236 Y Y Y Y Y hins ?_
  clear ho
  refine su ?_
  refine A0f tab [] .nil (Back.here cntL) ?_
  exact⟨Y,Y⟩
 refine A0d tab func164 Y nB (args:=[_,_]) ?_
 refine su ?_
 rw [show IntKind.u64.wrap ((0:Nat):Int)=((0:Nat):Int)from rfl]
 refine Q_op fun ho=>A0u ho bod137 Y Y Y Y Y (W.len_x (x:=0) dM) ?_
 clear ho
 refine su ?_
 refine Q_op fun ho=>A0u ho bod217 Y Y Y Y Y (hpdq _) ?_
 clear ho
 refine su ?_
 refine A1o tab [] .nil (Back.here cntL) ?_
 exact⟨Y,Y⟩
end
end Go.Proofs.YtclejblcnfaeaaaGreatDoor
end
section
namespace Go.Pal.To
theorem ways_len:∀{n:Nat} {a b:List MA} {w u:Wy},a.length+b.length≤n→u∈ways a b w→u.marks.length≤w.marks.length+n
 | n,a,b,w,u,h,hu=>by
  by_cases e:a=[]∧b=[]
  ·obtain⟨rfl,rfl⟩:=e
   rw [A7z]at hu
   simp only [List.mem_singleton]at hu
   subst hu
   omega
  ·cases n with
   | zero=>
    exfalso
    apply e
    exact⟨List.length_eq_zero_iff.1 oM,List.length_eq_zero_iff.1 oM⟩
   | succ n=>
    rw [A9c e]at hu
    have:∃m,u∈A2j ways a b w m:=by
     rcases List.mem_append.1 hu with hu|hu
     ·rcases List.mem_append.1 hu with hu|hu
      ·exact⟨_,hu⟩
      ·exact⟨_,hu⟩
     ·exact⟨_,hu⟩
    obtain⟨m,hm⟩:=this
    unfold A2j at hm
    cases es:A4g a b m with
    | none=>rw [es]at hm;cases hm
    | some t=>
     obtain⟨x,a',b'⟩:=t
     rw [es]at hm
     simp only at hm
     split at hm
     ·cases hm
     ·have hl:=A4u es
      have:=ways_len (n:=n) oM hm
      simp [Wy.add]at this
      omega
theorem cat_ways{a b:List MA}{os:List Int}(h:¬(a=[]∧b=[])){l:List Wy}(hp:l.Perm (A3e [((0:Nat):Int)] a b ⟨[],[],os⟩++A3e [((1:Nat):Int)] a b ⟨[],[],os⟩++A3e [((2:Nat):Int)] a b ⟨[],[],os⟩)):l.Perm (ways a b ⟨[],[],os⟩):=by
 rw [ways_three h];exact hp
def bestN(a b:List MA)(os:List Int):Nat:=(A1n (ways a b ⟨[],[],os⟩)).1
theorem bests_len{a b:List MA}{os:List Int}:(A6k a b os).length≤3 ^ (a.length+b.length):=by
 have h1:=A9d (w:=⟨[],[],os⟩) (Nat.le_refl (a.length+b.length))
 have:∀l:List Wy,(A1n l).2.length≤l.length:=fun l=>by
  by_cases hl:l=[]
  ·subst hl;simp [A1n]
  ·rw [(A6a hl).2.2];exact List.length_filter_le _ _
 exact Nat.le_trans (this _) h1
end Go.Pal.To
end
section
namespace Go.Proofs.YtclejblcnfaeaaaGreatDoor
open Go Go.Pal Go.Pal.To Go.Conc View Go.Pal.Fan
open Go.Proofs.Tryz
set_option maxHeartbeats 4000000
set_option maxRecDepth 20000
theorem cat_three{a b:List MA}{os:List Int}:(Fan.cat 3 fun j=>A3e [(j:Int)] a b ⟨[],[],os⟩)=A3e [((0:Nat):Int)] a b ⟨[],[],os⟩++A3e [((1:Nat):Int)] a b ⟨[],[],os⟩++A3e [((2:Nat):Int)] a b ⟨[],[],os⟩:=rfl
theorem pow3_8{n:Nat}(h:n≤8):3 ^ n<8192:=Nat.lt_of_le_of_lt (Nat.pow_le_pow_right dM h) dM
section
variable{v:View}{dd:Nat}{aA aB:Option Addr}{cA cB:Nat}{a b:List MA}{os:List Int}{H:Nat}{l:List Wy}{bd bch Wg bf br:Nat}
theorem bsRest_x{v0:View}{s:Nat×List (List Value)}{βf:A0e}{cr:Array Value}(hab:a.length+b.length≤8)(hne:¬(a=[]∧b=[]))(hl:v0.Le v)(hp:l.Perm (To.ways a b ⟨[],[],os⟩))(hfw:FwOwn βf bf s)(hkp:Kept v s l)(hcr:cr=fwC 0 none 0 0) :
  XC prog ⟨true,true⟩ none f134.ntmps B2e (FnV tab f134 (fun x u=>BestAt u x (bestN a b os) (A6k a b os)) v0) ⟨[],bsIn Wg bd bch bf br,βf++[(br,cr,170)]⟩ v:=by
 subst hcr
 obtain⟨k,ys⟩:=s
 obtain⟨ax,cap,seg,rfl,hS⟩:=hfw
 obtain⟨rfl,hRw⟩:=hkp
 simp only at hS hRw
 obtain⟨le,rfl,hw,hle⟩:=rows_E hRw
 have hper:=B2a hp
 have hN:(A1n l).1=bestN a b os:=hper.1
 have hlen8:le.length<8192:=by
  have h1:le.length=(A1n l).2.length:=by rw [←hw,List.length_map]
  have h2:=hper.2.length_eq
  have h3:=bests_len (a:=a) (b:=b) (os:=os)
  have h4:=pow3_8 hab
  unfold A6k at h3
  omega
 have hmk:∀e∈le,e.w.marks.length<2^62:=fun e he=>by
  have h1:e.w∈(A1n l).2:=by rw [←hw];exact List.mem_map.2 ⟨e,he,Y⟩
  have h2:=ways_len (Nat.le_refl _) (hp.mem_iff.1 (A9v h1).1)
  simp only [List.length_nil,Nat.zero_add]at h2
  omega
 rw [List.length_map]at hS
 show XC _ _ _ _ B2e _ ⟨[],_,(bf,fwC (A1n l).1 ax (le.map W.cE).length cap,170)::seg++[(br,fwC 0 none 0 0,170)]⟩ v
 rw [List.length_map]
 rcases hS.two with ⟨rfl,rfl,h0,rfl,_⟩|⟨b1,c1,rfl,rfl,hS1⟩
 ·obtain rfl:le=[]:=List.length_eq_zero_iff.1 h0
  have hbe:A6k a b os=[]:=by
   have h1:=hper.2
   rw [←hw]at h1
   exact h1.nil_eq.symm
  refine A4i ?_
  refine su ?_
  refine Q_op fun ho=>A0o [] _ ho bod164 Y Y Y Y Y A7s (sortW_nil) (fun x β' hR=>?_)
  clear ho
  obtain⟨rfl,rfl⟩:=hR
  refine su ?_
  refine A2m tab (by exact .cell rfl ib rfl .nil) hl fun hb hle'=>?_
  rw [←hN,hbe]
  exact⟨none,0,[],Y,.inl Y,.nil⟩
 ·have hD:W.DBz le cap le.toArray c1:=⟨DB.of_own (fun _=>rfl) hS1 fun x hx=>hx⟩
  have hP:W.zAt le v:=fun e he=>⟨(hle e he).1,hmk e he⟩
  refine A4i ?_
  refine su ?_
  refine Q_op fun ho=>A0o [(b1,c1,175)] [(bf,fwC (A1n l).1 (some ⟨b1,0,none⟩) le.length cap,170),(br,fwC 0 none 0 0,170)] ho bod164 Y Y Y Y Y cntA (W.sort_x (ζ:=le) (d:=le.toArray) (W.zat hP) hD (by simpa using hlen8)) (fun x β' hR=>?_)
  clear ho
  obtain⟨rfl,d',c',rfl,hD',hsz,hpm,hso⟩:=hR
  refine su ?_
  refine A2m tab (by exact .cell rfl ib rfl .nil) hl fun hb hle'=>?_
  obtain⟨hp1,hp2⟩:=sort_lists hpm hso
  rw [List.toList_toArray]at hp1
  have hbe:d'.toList.map W.E.w=A6k a b os:=by
   refine bests_of hp (by rw [←hw];exact hp1.map _) (List.pairwise_map.2 (hp2.imp fun {x y} h=>?_))
   rw [←lexZ_lt]
   exact h
  obtain⟨hO,hin⟩:=DB.to_own 175 b1 dM hD'.db
  have hln:(A6k a b os).length=d'.size:=by rw [←hbe,List.length_map,Array.length_toList]
  have hsz':d'.size=le.length:=by rw [hsz];exact List.size_toArray
  rw [←hN]
  refine⟨some ⟨b1,0,none⟩,cap,d'.toList.map W.cE,?_,RowAt.own hb (by exact cntL) hO,?_⟩
  ·rw [hln,hsz'];rfl
  ·rw [←hbe]
   refine E_rows fun e he=>?_
   have:=hle e (hin e he)
   exact⟨RowAt.le this.1 hle',RowAt.le this.2 hle'⟩
end
section
variable{v:View}{dd:Nat}{aA aB:Option Addr}{cA cB:Nat}{a b:List MA}{os:List Int}{H:Nat}
theorem best_x(hda:ActsAt v aA a)(hdb:ActsAt v aB b)(hday:∃p f x0 x1,v dd=some (p,.cells (owC x0 x1 os) 106 f))(hab:a.length+b.length≤8)(hfa:FitW H a)(hfb:FitW H b)(hH:H≤3)(hos:os.length=H) :
  A6l prog ⟨true,true⟩ 134 [dkV dd aA a.length cA aB b.length cB] (fun x u=>BestAt u x (bestN a b os) (A6k a b os)) v:=by
 refine A3k tab func134 Y nB (args:=[_]) ?_
 refine sw fun bx=>?_;refine sw fun bx=>?_;refine sw fun bx=>?_
 by_cases hne:a=[]∧b=[]
 ·obtain⟨rfl,rfl⟩:=hne
  refine su ?_
  rename_i b1 b2
  obtain⟨p2,f2,x0,x1,hd2⟩:=hday
  refine A2b tab Y Y Y hd2 (A1g tab (x:=[intV (ow os 0),intV (ow os 1),intV (ow os 2)]) Y Y Y ⟨Nat.le_of_ble_eq_true Y,Y⟩) ?_
  refine su ?_
  have hc:CallsB prog ⟨true,true⟩ 158 #[.pointer (some ⟨bx,0,none⟩),.agg (List.toArray [.slice none 0 0,.slice none 0 0,intV (ow os 0),intV (ow os 1),intV (ow os 2)]),natV 0] (RetB fun r β'=>r = .tuple #[]∧∃ax cap seg,β'=(bx,fwC 0 ax 1 cap,170)::seg∧OwnS 175 5 seg ax 1 cap [.slice none 0 0,.slice none 0 0,intV (ow os 0),intV (ow os 1),intV (ow os 2)]) [(bx,fwC 0 none 0 0,170)] (v.union (A0c [(b2,fwC 0 none 0 0,170),(b1,(dkV dd aA ([]:List MA).length cA aB ([]:List MA).length cB).cells,179)])):=
   CallsB.mono (addFew_x (s:=(0,[])) (n:=0) ⟨none,0,[],rfl,.nil⟩ rfl dM) fun e β' hR=>by
    cases e with
    | pan ch=>exact hR.elim
    | ret x=>
     obtain⟨rfl,hf⟩:=hR
     rw [show addY (0,[]) 0 [.slice none 0 0,.slice none 0 0,intV (ow os 0),intV (ow os 1),intV (ow os 2)]=(0,[[.slice none 0 0,.slice none 0 0,intV (ow os 0),intV (ow os 1),intV (ow os 2)]])from if_pos (.inl Y)]at hf
     exact⟨Y,hf⟩
  refine Q_op fun ho=>A0o [(bx,fwC 0 none 0 0,170)] [(b2,fwC 0 none 0 0,170),(b1,(dkV dd aA ([]:List MA).length cA aB ([]:List MA).length cB).cells,179)] ho bod158 Y Y Y Y Y cntA (hc) (fun x β' hR=>?_)
  clear ho hc
  obtain⟨rfl,ax,cap,seg,rfl,hS⟩:=hR
  refine Q_front (bin:=[(bx,fwC 0 ax 1 cap,170),(b2,fwC 0 none 0 0,170),(b1,(dkV dd aA ([]:List MA).length cA aB ([]:List MA).length cB).cells,179)]) (rest:=seg) (show ∀p,Pal.cnt p (((bx,fwC 0 ax 1 cap,170)::seg)++[(b2,fwC 0 none 0 0,170),(b1,(dkV dd aA ([]:List MA).length cA aB ([]:List MA).length cB).cells,179)])=Pal.cnt p ([(bx,fwC 0 ax 1 cap,170),(b2,fwC 0 none 0 0,170),(b1,(dkV dd aA ([]:List MA).length cA aB ([]:List MA).length cB).cells,179)]++seg)from cntA) ?_
  refine su ?_
  refine A2m tab (by exact .cell rfl ib rfl .nil) (Le.refl _) fun hb hle'=>?_
  exact⟨ax,cap,[[.slice none 0 0,.slice none 0 0,intV (ow os 0),intV (ow os 1),intV (ow os 2)]],Y,RowAt.own hb (fun p=>by simp only [A3u,List.append_eq,A0n];omega) hS,.cons ⟨none,0,none,0,Y,.inl Y,.inl Y⟩ .nil⟩
 rw [show((a.length:Int)+(b.length:Int)==0)=false from by
  have h1:a.length≠0∨b.length≠0:=by
   rcases a with _|⟨x,a⟩
   ·rcases b with _|⟨y,b⟩
    ·exact absurd ⟨Y,Y⟩ hne
    ·right;simp
   ·left;simp
  simp;omega]
 refine su ?_
 refine Q_op fun ho=>A_makeChan0 tab ho Y Y Y Y Y (fun Ch hCh=>?_)
 clear ho
 refine Q_op fun ho=>A8z tab ho Y Y Y (fun b4=>?_)
 clear ho
 refine cs ?_
 refine Q_op fun ho=>A8z tab ho Y Y Y (fun b5=>?_)
 clear ho
 refine Q_nil ?_
 refine A4d ?_
 rename_i b1 b2
 refine XC_sub (τ:=⟨[],bsIn b5 b1 b4 bx b2,[(b5,List.toArray [.int .u64 0,.int .u32 0],285),(b4,List.toArray [.chan (some Ch)],277),(bx,fwC 0 none 0 0,170),(b2,fwC 0 none 0 0,170),(b1,List.toArray [.pointer (some ⟨dd,0,none⟩),.slice aA a.length cA,.slice aB b.length cB],179)]⟩) (bestmid_x (a:=a) (b:=b) (os:=os) (dd:=dd) (v0:=v) hCh hda hdb hday oM hfa hfb hH hos ?_ ?_) ⟨Y,rg,?_⟩ (Le.refl _)
 ·intro Wg Ch hwc
  show(Fan.cat 3 fun j=>A3e [(j:Int)] a b ⟨[],[],os⟩).length<2^20
  rw [cat_three,←ways_three hne]
  have:=A9d (w:=⟨[],[],os⟩) (Nat.le_refl (a.length+b.length))
  have:=pow3_8 hab
  omega
 ·intro l vX s βf hp hB hv hfw hkp
  exact bsRest_x hab hne hv (cat_ways hne (by rw [←cat_three];exact hp)) hfw hkp Y
 ·exact(show Subm [(b5,List.toArray [.int .u64 0,.int .u32 0],285),(b4,List.toArray [.chan (some Ch)],277),(bx,fwC 0 none 0 0,170),(b2,fwC 0 none 0 0,170),(b1,List.toArray [.pointer (some ⟨dd,0,none⟩),.slice aA a.length cA,.slice aB b.length cB],179)] [(b5,List.toArray [.int .u64 0,.int .u32 0],285),(b4,List.toArray [.chan (some Ch)],277),(bx,fwC 0 none 0 0,170),(b2,fwC 0 none 0 0,170),(b1,List.toArray [.pointer (some ⟨dd,0,none⟩),.slice aA a.length cA,.slice aB b.length cB],179)]from fun p=>Nat.le_refl _)
end
end Go.Proofs.YtclejblcnfaeaaaGreatDoor
end
section
namespace Go.Pal.To
theorem chkBook_ok{P N:Int}{most:Nat}{l:List MA}:A4z P N most l=0↔l.length≤most∧∀x∈l,Ok P N x:=by
 unfold A4z
 by_cases h:l.length > most
 ·rw [if_pos h]
  exact⟨fun e=>absurd e dM,fun e=>by omega⟩
 ·rw [if_neg h,chkActs_ok]
  exact⟨fun e=>⟨oM,e⟩,fun e=>e.2⟩
theorem chkGo_ok{P:Int}{d:List Int}{most:Nat}:∀{ls:List (List MA)},chkBooks.go P d most ls=0↔∀l∈ls,l.length≤most∧∀x∈l,Ok P d.length x
 | []=>by simp [chkBooks.go]
 | l::r=>by
  unfold chkBooks.go
  by_cases h:A4z P d.length most l=0
  ·rw [if_neg (by simpa using h),chkGo_ok (ls:=r)]
   have:=chkBook_ok.1 h
   simp only [List.mem_cons,forall_eq_or_imp]
   exact⟨fun e=>⟨this,e⟩,fun e=>e.2⟩
  ·rw [if_pos h]
   exact⟨fun e=>absurd e h,fun e=>absurd (chkBook_ok.2 (e l sM)) h⟩
theorem B2d{P:Int}{d:List Int}{most:Nat}{ls:List (List MA)}:chkBooks P d most ls=0↔MOk P d∧∀l∈ls,l.length≤most∧∀x∈l,Ok P d.length x:=by
 unfold chkBooks
 by_cases h:A4b P d=0
 ·rw [if_neg (by simpa using h),chkGo_ok]
  exact⟨fun e=>⟨chkMorn_ok.1 h,e⟩,fun e=>e.2⟩
 ·rw [if_pos h]
  exact⟨fun e=>absurd e h,fun e=>absurd (chkMorn_ok.2 e.1) h⟩
def layE(P:Int)(d:List Int)(a b:List MA):Int:=chkBooks P d 4 [a,b]
structure LOk(P:Int)(d:List Int)(a b:List MA):Prop where
 m:MOk P d
 la:a.length≤4
 lb:b.length≤4
 a:∀x∈a,Ok P d.length x
 b:∀x∈b,Ok P d.length x
theorem layE_ok{P:Int}{d:List Int}{a b:List MA}:layE P d a b=0↔LOk P d a b:=by
 unfold layE
 rw [B2d]
 constructor
 ·rintro⟨h1,h2⟩
  have ha:=h2 a sM
  have hb:=h2 b sM
  exact⟨h1,ha.1,hb.1,ha.2,hb.2⟩
 ·rintro⟨h1,h2,h3,h4,h5⟩
  refine⟨h1,fun l hl=>?_⟩
  simp only [List.mem_cons,List.not_mem_nil,or_false]at hl
  rcases hl with rfl|rfl
  ·exact⟨h2,h4⟩
  ·exact⟨h3,h5⟩
def A5y(P:Int)(d:List Int)(a b:List MA)(kn:Bool):Int×Nat×List Wy:=
 if layE P d a b≠0 then(layE P d a b,0,[])else if kn=false then(3,0,[])else if A6k a b d=[]then(11,bestN a b d,[])else(0,bestN a b d,A6k a b d)
end Go.Pal.To
end
section
namespace Go.Proofs.YtclejblcnfaeaaaGreatDoor
open Go Go.Pal Go.Pal.To Go.Conc View
open Go.Proofs.Tryz
set_option maxHeartbeats 4000000
set_option maxRecDepth 20000
inductive SlAt(v:View):List Value→List (List MA)→Prop
 | nil:SlAt v [] []
 | cons {a:Option Addr} {l:List MA} {cap:Nat} {xs:List Value} {ls:List (List MA)}:ActsAt v a l→SlAt v xs ls→SlAt v (.slice a l.length cap::xs) (l::ls)
theorem SlAt.get{v:View}:∀{xs:List Value} {ls:List (List MA)} {i:Nat},SlAt v xs ls→(hi:i<ls.length)→∃a cap,xs[i]?=some (.slice a ls[i].length cap)∧ActsAt v a ls[i]
 | _,_,0,.cons h r,_=>⟨_,_,rfl,h⟩
 | _,_,i+1,.cons h r,hi=>by
  have:=SlAt.get (i:=i) r (by simpa using hi)
  simpa using this
section
variable{v:View}
theorem B0n{mn:Who}{P:Int}{a aL:Option Addr}{cap capL most:Nat}{d:List Int}{xs:List Value}{ls:List (List MA)}(hd:RowAt v a (d.map intV))(hlen:d.length<2^30)(hL:RowAt v aL xs)(hls:SlAt v xs ls)(hl8:ls.length<2^20)(hll:∀l∈ls,l.length<2^30) :
  Ret1 prog mn 57 [moV P a d.length cap,natV most,.slice aL ls.length capL] (intV (chkBooks P d most ls)) v:=by
 refine A0d tab func57 Y nB (args:=[_,_,_]) ?_
 refine sw fun bx=>?_
 refine Q_op fun ho=>A0u ho bod32 Y Y Y Y Y (morn_x hd hlen) ?_
 clear ho
 unfold chkBooks
 by_cases h1:A4b P d=0
 ·rw [h1,if_neg sM]
  have hm:=chkMorn_ok.1 h1
  refine su ?_
  refine A1q (α:=Nat) (fun i=>⟨[],[(20,.int .i64 i),(19,.int .i64 ls.length),(18,.slice aL ls.length capL),(1,natV most),(3,.pointer (some ⟨bx,0,none⟩))],[(bx,List.toArray [intV P,.slice a d.length cap],26)]⟩)
   (fun i u=>u=v∧i≤ls.length∧chkBooks.go P d most (ls.drop i)=chkBooks.go P d most ls) (fun i=>ls.length-i) 0 ⟨Y,rg,cntL⟩ (Le.refl _) ⟨Y,Nat.zero_le _,Y⟩ ?_
  rintro i u ⟨rfl,hi,hr⟩
  refine su ?_
  refine A1i Y (fun h=>?_) (fun h=>?_)
  ·replace h:=fa h
   have hlt:i<ls.length:=oM
   obtain⟨ai,ci,hx,hai⟩:=hls.get hlt
   obtain⟨bb,off,p,c,e,f,rfl,hv,hc⟩:=row_cell hL hx
   have hli:=hll _ (List.getElem_mem hlt)
   rw [List.drop_eq_getElem_cons hlt,show chkBooks.go P d most (ls[i]::ls.drop (i+1))=(if A4z P d.length most ls[i]≠0 then A4z P d.length most ls[i]else chkBooks.go P d most (ls.drop (i+1)))from rfl]at hr
   generalize ls[i]=l at hx hai hli hr hc
   refine su ?_
   refine A6d tab i Y Y Y Y Y Y Y hlt ?_
   refine A2b tab Y Y Y hv (A0l tab Y Y Y (by rw [Nat.mul_one];exact hc)) ?_
   refine su ?_
   by_cases h2:l.length > most
   ·rw [show decide ((l.length:Int) > (most:Int))=true from decide_eq_true oM]
    have hcb:A4z P d.length most l=6:=by unfold A4z;rw [if_pos h2]
    rw [hcb,if_pos dM]at hr
    refine su ?_
    refine A0f tab [] (by exact .tmp rfl .nil) (Back.here cntL) ?_
    exact⟨by rw [←hr];rfl,Y⟩
   rw [show decide ((l.length:Int) > (most:Int))=false from decide_eq_false oM]
   have hcb:A4z P d.length most l=A5a P d.length l:=by unfold A4z;rw [if_neg h2]
   rw [hcb]at hr
   refine su ?_
   refine A1q (α:=Nat) (fun j=>⟨[],[(30,.int .i64 j),(29,.int .i64 l.length),(28,.slice ai l.length ci),(20,.int .i64 i),(19,.int .i64 ls.length),(18,.slice (some ⟨bb,off,none⟩) ls.length capL),(1,natV most),(3,.pointer (some ⟨bx,0,none⟩))],[(bx,List.toArray [intV P,.slice a d.length cap],26)]⟩)
    (fun j u'=>u'=u∧j≤l.length∧A5a P d.length (l.drop j)=A5a P d.length l) (fun j=>l.length-j) 0 ⟨Y,rg,cntL⟩ (Le.refl _) ⟨Y,Nat.zero_le _,Y⟩ ?_
   rintro j u' ⟨rfl,hj,hq⟩
   refine su ?_
   refine A1i Y (fun h=>?_) (fun h=>?_)
   ·replace h:=fa h
    have hjt:j<l.length:=oM
    obtain⟨bb2,off2,p2,c2,e2,f2,rfl,hv2,hc2⟩:=hai.get hjt
    rw [List.drop_eq_getElem_cons hjt,show A5a P d.length (l[j]::l.drop (j+1))=(if A7a P d.length l[j]≠0 then A7a P d.length l[j]else A5a P d.length (l.drop (j+1)))from rfl]at hq
    refine su ?_
    refine A6d tab j Y Y Y Y Y Y Y hjt ?_
    refine A2b tab Y Y Y hv2 (A1g tab Y Y Y (hc2 j hjt)) ?_
    refine sw fun bx=>?_
    refine Q_op fun ho=>A0u ho bod106 Y Y Y Y Y (checkAct_x (x:=l[j]) hm.p (by have:=hm.len;omega)) ?_
    clear ho
    by_cases h3:A7a P d.length l[j]=0
    ·rw [h3]
     rw [if_neg (by simpa using h3)]at hq
     refine su ?_
     exact A0b ⟨j+1,u',oM,⟨Y,rg,cntL⟩,Le.refl _,Y,hjt,hq⟩
    ·rw [if_pos h3]at hq
     rw [←hq,if_pos h3]at hr
     refine su ?_
     rw [show(A7a P d.length l[j] != 0)=true from by simpa using h3]
     refine su ?_
     refine A0f tab [] (by exact .tmp rfl .nil) (Back.here cntL) ?_
     exact⟨by rw [←hr];rfl,Y⟩
   ·replace h:=fa h
    have hjn:j=l.length:=oM
    rw [hjn,List.drop_length]at hq
    rw [←hq]at hr
    rw [show A5a P d.length []=0 from Y,if_neg dM]at hr
    refine su ?_
    exact A0b ⟨i+1,u',oM,⟨Y,rg,cntL⟩,Le.refl _,Y,hlt,hr⟩
  ·replace h:=fa h
   have hin:i=ls.length:=oM
   rw [hin,List.drop_length]at hr
   refine su ?_
   refine A0f tab [] (by exact .tmp rfl .nil) (Back.here cntL) ?_
   exact⟨by rw [←hr];rfl,Y⟩
 ·rw [if_pos h1]
  refine su ?_
  rw [show(A4b P d != 0)=true from by simpa using h1]
  refine su ?_
  refine A0f tab [] (by exact .tmp rfl .nil) (Back.here cntL) ?_
  exact⟨Y,Y⟩
end
theorem _root_.Go.Pal.To.Ok.fit{P:Int}{n:Nat}{x:MA}(h:Ok P n x):(x.k=0∨x.k=1∨x.k=2)∧0≤x.h∧x.h<(n:Int):=⟨h.k,h.h⟩
theorem fit_ok{P:Int}{n:Nat}{l:List MA}(h:∀x∈l,Ok P n x):FitW n l:=fun x hx=>(h x hx).fit
abbrev dk0:Value:=.agg (List.toArray [.pointer none,.slice none 0 0,.slice none 0 0])
def LayAt(u:View)(x:Value)(P:Int)(d:List Int)(aA:Option Addr)(a:List MA)(cA:Nat)(aB:Option Addr)(b:List MA)(cB:Nat):Prop:=
 if layE P d a b≠0 then x = .tuple (List.toArray [dk0,intV (layE P d a b)])
 else ∃dd p f x0 x1,x = .tuple (List.toArray [dkV dd aA a.length cA aB b.length cB,intV 0])∧u dd=some (p,.cells (owC x0 x1 d) 106 f)
section
variable{v:View}{P:Int}{aD aA aB:Option Addr}{cD cA cB:Nat}{d:List Int}{a b:List MA}
theorem lay_x{mn:Who}(hd:RowAt v aD (d.map intV))(hdl:d.length<2^30)(ha:ActsAt v aA a)(hb:ActsAt v aB b)(hal:a.length<2^30)(hbl:b.length<2^30) :
  A6l prog mn 96 [moV P aD d.length cD,.slice aA a.length cA,.slice aB b.length cB] (fun x u=>LayAt u x P d aA a cA aB b cB) v:=by
 refine A3k tab func96 Y nB (args:=[_,_,_]) ?_
 refine sw fun bx=>?_;refine sw fun bx=>?_
 rename_i b1
 refine Q_op fun ho=>A3w tab ho Y Y Y Y Y Y Y Y Y (fun bL cL hL=>?_)
 clear ho
 refine A8x (β1:=[(bL,cL,28)]) (β2:=[(bx,dk0.cells,179),(b1,(moV P aD d.length cD).cells,26)]) (fun _=>rfl) (fun hbk=>?_)
 have hrL:=RowAt.own hbk (by exact cntL) hL
 have hl1:=A0g v (A0c [(bL,cL,28)])
 generalize v.union (A0c [(bL,cL,28)])=v1 at *
 have hls:SlAt v1 [.slice aA a.length cA,.slice aB b.length cB] [a,b]:=.cons (ha.le hl1) (.cons (hb.le hl1) .nil)
 refine Q_op fun ho=>A0u ho bod57 Y Y Y Y Y (B0n (most:=4) (ls:=[a,b]) (hd.le hl1) hdl hrL hls sM (fun l hl=>by simp only [List.mem_cons,List.not_mem_nil,or_false]at hl;rcases hl with rfl|rfl<;>assumption)) ?_
 clear ho
 rw [show chkBooks P d 4 [a,b]=layE P d a b from rfl]
 by_cases h:layE P d a b=0
 ·rw [h]
  have hok:=layE_ok.1 h
  refine su ?_
  refine Q_op fun ho=>A0o [] _ ho bod58 Y Y Y Y Y A7s (open_x (hd.le (hl1.trans (A0g _ _))) hok.m.len) (fun x β' hR=>?_)
  clear ho
  obtain⟨dd,rfl,rfl⟩:=hR
  refine su ?_
  refine A2m tab (by exact .cell rfl ib rfl (.tmp rfl .nil)) hl1 fun hb2 hle=>?_
  unfold LayAt
  rw [if_neg (by simpa using h)]
  exact⟨dd,_,_,_,_,Y,A0q hb2 ib⟩
 ·refine su ?_
  rw [show(layE P d a b != 0)=true from by simpa using h]
  refine su ?_
  refine A2m tab (by exact .cell rfl ib rfl (.tmp rfl .nil)) hl1 fun hb2 hle=>?_
  unfold LayAt
  rw [if_pos h]
  rfl
theorem yes_x{mn:Who}:Ret1 prog mn 90 [] (.bool true) v:=by
 refine A0d tab func90 Y nB (args:=[]) ?_
 refine su ?_
 refine A0f tab [] (by exact .tmp rfl .nil) (Back.here cntL) ?_
 exact⟨Y,Y⟩
def LaidAt(u:View)(x:Value)(r:Int×Nat×List Wy):Prop:=∃y,x = .tuple (List.toArray [y,intV r.1])∧BestAt u y r.2.1 r.2.2
theorem laid_x{kf:FuncId}{caps:List Value}{kn:Bool}(hkf:A0i prog kf)(hf:∀u,v.Le u→Ret1 prog ⟨true,true⟩ kf caps (.bool kn) u)(hd:RowAt v aD (d.map intV))(hdl:d.length<2^30)(ha:ActsAt v aA a)(hb:ActsAt v aB b)(hal:a.length<2^30)(hbl:b.length<2^30) :
  A6l prog ⟨true,true⟩ 89 [moV P aD d.length cD,.slice aA a.length cA,.slice aB b.length cB,.func (.func kf) #[] caps.toArray] (fun x u=>LaidAt u x (A5y P d a b kn)) v:=by
 refine A3k tab func89 Y nB (args:=[_,_,_,_]) ?_
 refine sw fun bx=>?_;refine sw fun bx=>?_
 refine Q_op fun ho=>A1p ho bod96 Y Y Y Y Y (lay_x hd hdl ha hb hal hbl) (fun x u hl hR=>?_)
 clear ho
 have hz:∀w:View,BestAt w (.agg (List.toArray [.int .i64 0,.slice none 0 0])) 0 []:=fun w=>⟨none,0,[],Y,.inl Y,.nil⟩
 unfold LayAt at hR
 by_cases h:layE P d a b=0
 ·rw [if_neg (by simpa using h)]at hR
  obtain⟨dd,p,f,x0,x1,rfl,hdd⟩:=hR
  have hok:=layE_ok.1 h
  have:=hok.la;have:=hok.lb
  have hml:=hok.m.len
  refine sw fun bx=>?_
  refine Q_op fun ho=>A0u ho hkf Y Y Y Y Y (hf _ hl) ?_
  clear ho
  cases kn with
  | false=>
   refine su ?_
   refine A2m tab (by exact .cell rfl ib rfl (.tmp rfl .nil)) hl fun hb2 hle=>?_
   unfold A5y
   rw [if_neg (by simpa using h),if_pos rfl]
   exact⟨_,Y,hz _⟩
  | true=>
   refine su ?_
   refine Q_op fun ho=>A1p ho bod134 Y Y Y Y Y (best_x (ha.le hl) (hb.le hl) ⟨p,f,x0,x1,hdd⟩ oM (fit_ok hok.a) (fit_ok hok.b) hml.2 Y) (fun y w hl2 hB=>?_)
   clear ho
   obtain⟨ax,cap,ys,rfl,hrow,hrows⟩:=hB
   refine sw fun bx=>?_
   by_cases hn:A6k a b d=[]
   ·rw [show(((A6k a b d).length:Int)==0)=true from by rw [hn];rfl]
    refine su ?_
    refine A2m tab (by exact .cell rfl ib rfl (.tmp rfl .nil)) (hl.trans hl2) fun hb2 hle=>?_
    unfold A5y
    rw [if_neg (by simpa using h),if_neg dM,if_pos hn]
    refine⟨_,Y,ax,cap,ys,?_,hrow.le hle,?_⟩
    ·rw [hn];rfl
    ·rw [hn]at hrows;exact hrows.le hle
   ·rw [show(((A6k a b d).length:Int)==0)=false from by
     have:(A6k a b d).length≠0:=fun e=>hn (List.length_eq_zero_iff.1 e)
     simp;exact hn]
    refine su ?_
    refine A2m tab (by exact .cell rfl ib rfl (.tmp rfl .nil)) (hl.trans hl2) fun hb2 hle=>?_
    unfold A5y
    rw [if_neg (by simpa using h),if_neg dM,if_neg hn]
    exact⟨_,Y,ax,cap,ys,Y,hrow.le hle,hrows.le hle⟩
 ·rw [if_pos h]at hR
  subst hR
  refine sw fun bx=>?_
  rw [show(layE P d a b != 0)=true from by simpa using h]
  refine su ?_
  refine A2m tab (by exact .cell rfl ib rfl (.tmp rfl .nil)) hl fun hb2 hle=>?_
  unfold A5y
  rw [if_pos h]
  exact⟨_,Y,hz _⟩
end
end Go.Proofs.YtclejblcnfaeaaaGreatDoor
end
section
namespace Go.Pal.To
def joinR(P:Int)(d:List Int)(a b:List MA):Int×List MA×List Int:=
 if(A5y P d a b true).1≠0 then((A5y P d a b true).1,[],[])else match (A5y P d a b true).2.2 with
  | w::_=>(0,w.book,w.marks)
  | []=>(0,[],[])
def countR(P:Int)(d:List Int)(a b:List MA):Nat×Nat×Int:=((A5y P d a b true).2.2.length,(A5y P d a b true).2.1,(A5y P d a b true).1)
def A5x(act:Int):Nat→List Int→Int
 | _,[]=>-1
 | n,m::l=>if m=2 then A5x act n l else if(n:Int)=act then m else A5x act (n+1) l
def A9z(act:Int)(ws:List Wy):Nat:=ws.countP fun w=>A5x act 0 w.marks==0
def bothV(act:Int)(ws:List Wy):Int:=if A9z act ws=0 then 2 else if A9z act ws=ws.length then 1 else 3
def knows(n:Int)(len:Nat):Bool:=!decide (outZ n 0 ((len:Int)-1))
def bothR(P:Int)(d:List Int)(a b:List MA)(act:Int):Int×Int:=
 if(A5y P d a b (knows act a.length)).1≠0 then(0,(A5y P d a b (knows act a.length)).1)else(bothV act (A5y P d a b (knows act a.length)).2.2,0)
theorem laidR_ne{P:Int}{d:List Int}{a b:List MA}{kn:Bool}(h:(A5y P d a b kn).1=0):layE P d a b=0∧kn=true∧A6k a b d≠[]∧(A5y P d a b kn)=(0,bestN a b d,A6k a b d):=by
 unfold A5y at h⊢
 by_cases h1:layE P d a b=0
 ·rw [if_neg (by simpa using h1)]at h⊢
  cases kn with
  | false=>rw [if_pos rfl]at h;cases h
  | true=>
   rw [if_neg dM]at h⊢
   by_cases h2:A6k a b d=[]
   ·rw [if_pos h2]at h;cases h
   ·rw [if_neg h2];exact⟨h1,Y,h2,Y⟩
 ·rw [if_pos h1]at h;exact absurd h h1
end Go.Pal.To
end
section
namespace Go.Proofs.YtclejblcnfaeaaaGreatDoor
open Go Go.Pal Go.Pal.To Go.Conc View
open Go.Proofs.Tryz
set_option maxHeartbeats 4000000
set_option maxRecDepth 20000
theorem Rows.head{v:View}{ys:List (List Value)}{w:Wy}{ws:List Wy}(h:Rows v ys (w::ws)):∃y ys',ys=y::ys'∧WyAt v y w∧Rows v ys' ws:=by
 cases h with
 | cons h r=>exact⟨_,_,rfl,h,r⟩
theorem row_at{v:View}{a:Option Addr}{xs:List Value}(h:RowAt v a xs)(hne:xs≠[]):∃b off p c e f,a=some ⟨b,off,none⟩∧v b=some (p,.cells c e f)∧off+xs.length≤c.size∧∀(i:Nat) (x:Value),xs[i]?=some x→c[off+i]?=some x:=by
 rcases h with h|⟨b,off,p,c,e,f,h1,h2,h3,h4⟩
 ·exact absurd h hne
 ·exact⟨b,off,p,c,e,f,h1,h2,h3,h4⟩
def JoinAt(u:View)(x:Value)(r:Int×List MA×List Int):Prop:=∃ab cb am cm,x = .tuple (List.toArray [.slice ab r.2.1.length cb,.slice am r.2.2.length cm,intV r.1])∧ActsAt u ab r.2.1∧RowAt u am (r.2.2.map intV)
section
variable{v:View}{P:Int}{aD aA aB:Option Addr}{cD cA cB:Nat}{d:List Int}{a b:List MA}
theorem join_x(hd:RowAt v aD (d.map intV))(hdl:d.length<2^30)(ha:ActsAt v aA a)(hb:ActsAt v aB b)(hal:a.length<2^30)(hbl:b.length<2^30) :
  A6l prog ⟨true,true⟩ 48 [moV P aD d.length cD,.slice aA a.length cA,.slice aB b.length cB] (fun x u=>JoinAt u x (joinR P d a b)) v:=by
 refine A3k tab func48 Y nB (args:=[_,_,_]) ?_
 refine sw fun bx=>?_
 refine Q_op fun ho=>A1p ho bod89 Y Y Y Y Y (laid_x (kn:=true) (caps:=[]) bod90 (fun u _=>yes_x) hd hdl ha hb hal hbl) (fun x u hl hR=>?_)
 clear ho
 obtain⟨y,rfl,ax,cap,ys,rfl,hrow,hrows⟩:=hR
 unfold joinR
 generalize hr:A5y P d a b true=r at *
 obtain⟨e,k,ws⟩:=r
 dsimp only at hrow hrows⊢
 by_cases h:e=0
 ·subst h
  obtain⟨h1,_,h2,h3⟩:=laidR_ne (by rw [hr])
  rw [hr]at h3
  injection h3 with _ h3
  injection h3 with h4 h5
  subst h4
  have hwne:ws≠[]:=by rw [h5];exact h2
  obtain⟨w,ws',rfl⟩:=List.exists_cons_of_ne_nil hwne
  clear h5 hr
  obtain⟨y,ys',rfl,⟨am,cm,ab,cb,rfl,hm,hk⟩,hrs⟩:=hrows.head
  obtain⟨bb,off,p,c,e,f,rfl,hv,hsz,hc⟩:=row_at hrow sM
  have hc0:=hc 0 (.slice am w.marks.length cm) Y
  have hc1:=hc 1 (.slice ab w.book.length cb) Y
  refine sw fun bx=>?_
  refine A1m tab 0 Y Y Y Y Y Y Y sM ?_
  refine su ?_
  refine A4l tab Y Y Y hv (A0l tab Y Y Y hc1) ?_
  refine su ?_
  refine A1m tab 0 Y Y Y Y Y Y Y sM ?_
  refine su ?_
  refine A4l tab Y Y Y hv (A0l tab Y Y Y hc0) ?_
  refine su ?_
  refine A2m tab (by exact .tmp rfl (.tmp rfl (.tmp rfl .nil))) hl fun hb2 hle=>?_
  exact⟨ab,cb,am,cm,Y,ActsAt.le hk hle,RowAt.le hm hle⟩
 ·refine sw fun bx=>?_
  rw [show(e != 0)=true from by simpa using h]
  refine su ?_
  refine A2m tab (by exact .tmp rfl (.tmp rfl (.tmp rfl .nil))) hl fun hb2 hle=>?_
  rw [if_pos h]
  exact⟨none,0,none,0,Y,.inl Y,.inl Y⟩
theorem count_x(hd:RowAt v aD (d.map intV))(hdl:d.length<2^30)(ha:ActsAt v aA a)(hb:ActsAt v aB b)(hal:a.length<2^30)(hbl:b.length<2^30) :
  Ret1 prog ⟨true,true⟩ 43 [moV P aD d.length cD,.slice aA a.length cA,.slice aB b.length cB] (.tuple (List.toArray [natV (countR P d a b).1,natV (countR P d a b).2.1,intV (countR P d a b).2.2])) v:=by
 refine A0d tab func43 Y nB (args:=[_,_,_]) ?_
 refine sw fun bx=>?_
 refine Q_op fun ho=>A1p ho bod89 Y Y Y Y Y (laid_x (kn:=true) (caps:=[]) bod90 (fun u _=>yes_x) hd hdl ha hb hal hbl) (fun x u hl hR=>?_)
 clear ho
 obtain⟨y,rfl,ax,cap,ys,rfl,hrow,hrows⟩:=hR
 unfold countR
 generalize A5y P d a b true=r at *
 obtain⟨e,k,ws⟩:=r
 refine sw fun bx=>?_
 refine A0f tab [] (by exact .tmp rfl (.tmp rfl (.tmp rfl .nil))) (Back.le hl cntL) ?_
 exact⟨Y,Y⟩
end
theorem Rows.get{v:View}:∀{ys:List (List Value)} {ws:List Wy} {i:Nat},Rows v ys ws→(hi:i<ws.length)→∃am cm ab cb,ys[i]?=some (wyC am cm ab cb ws[i])∧RowAt v am (ws[i].marks.map intV)∧RowAt v ab (ws[i].book.map MA.cells).flatten
 | _,_,0,.cons ⟨am,cm,ab,cb,h1,h2,h3⟩ r,_=>⟨am,cm,ab,cb,by rw [h1];rfl,h2,h3⟩
 | _,_,i+1,.cons h r,hi=>by
  have:=Rows.get (i:=i) r (by simpa using hi)
  simpa using this
theorem Rows.five{v:View}:∀{ys:List (List Value)} {ws:List Wy},Rows v ys ws→∀y∈ys,y.length=5
 | _,_,.nil,_,h=>by cases h
 | _,_,.cons ⟨am,cm,ab,cb,h1,_,_⟩ r,y,hy=>by
  rcases List.mem_cons.1 hy with rfl|hy
  ·rw [h1];rfl
  ·exact r.five y hy
theorem rows_recd{v:View}{a:Option Addr}{ys:List (List Value)}{ws:List Wy}(h:RowAt v a ys.flatten)(hr:Rows v ys ws){i:Nat}(hi:i<ws.length):∃b off p c e f am cm ab cb,a=some ⟨b,off,none⟩∧v b=some (p,.cells c e f)∧off+i*5+5≤c.size∧c.extract (off+i*5) (off+i*5+5)=(wyC am cm ab cb ws[i]).toArray∧RowAt v am (ws[i].marks.map intV)∧RowAt v ab (ws[i].book.map MA.cells).flatten:=by
 obtain⟨am,cm,ab,cb,h1,h2,h3⟩:=hr.get hi
 have hlt:i<ys.length:=(List.getElem?_eq_some_iff.1 h1).1
 obtain⟨b,off,p,c,e,f,q1,q2,q3⟩:=RowAt.recs (k:=5) h hr.five dM hlt
 obtain⟨q4,q5⟩:=q3 i hlt
 have e5:ys[i]=wyC am cm ab cb ws[i]:=(List.getElem?_eq_some_iff.1 h1).2
 exact⟨b,off,p,c,e,f,am,cm,ab,cb,q1,q2,q4,by rw [q5,e5],h2,h3⟩
section
variable{v:View}{P:Int}{aD aA aB:Option Addr}{cD cA cB:Nat}{d:List Int}{a b:List MA}
theorem mark_x{mn:Who}{am ab:Option Addr}{cm cb:Nat}{w:Wy}{act:Int}(hm:RowAt v am (w.marks.map intV))(hl:w.marks.length<2^30) :
  Ret1 prog mn 95 [.agg (wyC am cm ab cb w).toArray,intV act] (intV (A5x act 0 w.marks)) v:=by
 refine A0d tab func95 Y nB (args:=[_,_]) ?_
 refine sw fun bx=>?_
 refine A1q (α:=Nat×Nat) (fun z=>⟨[],[(11,.int .i64 z.1),(5,.int .i64 z.2),(10,.int .i64 w.marks.length),(9,.slice am w.marks.length cm),(1,intV act)],[]⟩)
  (fun z u=>u=v∧z.1≤w.marks.length∧z.2≤z.1∧A5x act z.2 (w.marks.drop z.1)=A5x act 0 w.marks) (fun z=>w.marks.length-z.1) (0,0) ⟨Y,rg,cntL⟩ (Le.refl _) ⟨Y,Nat.zero_le _,Nat.le_refl _,Y⟩ ?_
 rintro⟨i,n⟩ u ⟨rfl,hi,hn,hr⟩
 simp only at hi hn hr
 dsimp only
 refine su ?_
 refine A1i Y (fun h=>?_) (fun h=>?_)
 ·replace h:=fa h
  have hlt:i<w.marks.length:=oM
  obtain⟨bb,off,p,c,e,f,rfl,hv,hc⟩:=hm.get hlt
  have hci:=hc _ hlt
  rw [List.drop_eq_getElem_cons hlt,show A5x act n (w.marks[i]::w.marks.drop (i+1))=(if w.marks[i]=2 then A5x act n (w.marks.drop (i+1))else if(n:Int)=act then w.marks[i]else A5x act (n+1) (w.marks.drop (i+1)))from rfl]at hr
  generalize w.marks[i]=m at hr hci
  refine su ?_
  refine A6d tab i Y Y Y Y Y Y Y hlt ?_
  refine A2b tab Y Y Y hv (A0l tab Y Y Y (by rw [Nat.mul_one];exact hci)) ?_
  refine su ?_
  by_cases h2:m=2
  ·subst h2
   rw [if_pos rfl]at hr
   refine su ?_
   exact A0b ⟨(i+1,n),u,by simp only;omega,⟨Y,rg,cntL⟩,Le.refl _,Y,hlt,by simp only;omega,hr⟩
  rw [show(m==2)=false from by simpa using h2]
  rw [if_neg h2]at hr
  refine su ?_
  by_cases h3:(n:Int)=act
  ·rw [if_pos h3]at hr
   rw [show((n:Int)==act)=true from by simpa using h3]
   refine su ?_
   refine A0f tab [] (by exact .tmp rfl .nil) (Back.here cntL) ?_
   exact⟨by rw [←hr];rfl,Y⟩
  ·rw [if_neg h3]at hr
   rw [show((n:Int)==act)=false from by simpa using h3]
   refine su ?_
   exact A0b ⟨(i+1,n+1),u,by simp only;omega,⟨Y,rg,cntL⟩,Le.refl _,Y,hlt,by simp only;omega,hr⟩
 ·replace h:=fa h
  have hin:i=w.marks.length:=oM
  rw [hin,List.drop_length]at hr
  refine su ?_
  refine A0f tab [] (by exact .tmp rfl .nil) (Back.here cntL) ?_
  exact⟨by rw [←hr];rfl,Y⟩
theorem knows_x{mn:Who}{b1 b2:Nat}{act:Int}{p1 p2:Bool}{f1 f2:Nat×Nat}(h1:v b1=some (p1,.cells (List.toArray [intV act]) 3 f1))(h2:v b2=some (p2,.cells (List.toArray [.slice aA a.length cA]) 28 f2))(hl:a.length<2^30) :
  Ret1 prog mn 94 [.pointer (some ⟨b1,0,none⟩),.pointer (some ⟨b2,0,none⟩)] (.bool (knows act a.length)) v:=by
 refine A0d tab func94 Y nB (args:=[_,_]) ?_
 refine su ?_
 refine A2b tab Y Y Y h1 (A0l tab Y Y Y Y) ?_
 refine A2b tab Y Y Y h2 (A0l tab Y Y Y Y) ?_
 refine su ?_
 refine Q_op fun ho=>A0u ho bod81 Y Y Y Y Y A3g ?_
 clear ho
 refine su ?_
 refine A0f tab [] (by exact .tmp rfl .nil) (Back.here cntL) ?_
 exact⟨Y,Y⟩
theorem both_x{act:Int}(hd:RowAt v aD (d.map intV))(hdl:d.length<2^30)(ha:ActsAt v aA a)(hb:ActsAt v aB b)(hal:a.length<2^30)(hbl:b.length<2^30) :
  Ret1 prog ⟨true,true⟩ 47 [moV P aD d.length cD,.slice aA a.length cA,.slice aB b.length cB,intV act] (.tuple (List.toArray [intV (bothR P d a b act).1,intV (bothR P d a b act).2])) v:=by
 refine A0d tab func47 Y nB (args:=[_,_,_,_]) ?_
 refine sw fun bx=>?_;refine sw fun bx=>?_;refine sw fun bx=>?_
 rename_i b4 b5
 obtain⟨b7,rfl⟩:∃b:Nat,b=bx:=⟨bx,rfl⟩
 refine A8x (β1:=[(b7,(intV act).cells,3),(b5,(Value.slice aA a.length cA).cells,28)]) (β2:=[(b4,(moV P aD d.length cD).cells,26)]) (fun _=>rfl) (fun hbk=>?_)
 have hv7:=A0q hbk (b:=b7) (c:=List.toArray [intV act]) (t:=3) ib
 have hv5:=A0q hbk (b:=b5) (c:=List.toArray [.slice aA a.length cA]) (t:=28) ib
 have hl1:=A0g v (A0c [(b7,(intV act).cells,3),(b5,(Value.slice aA a.length cA).cells,28)])
 generalize v.union (A0c [(b7,(intV act).cells,3),(b5,(Value.slice aA a.length cA).cells,28)])=v1 at *
 refine Q_op fun ho=>A1p ho bod89 Y Y Y Y Y (laid_x (kn:=knows act a.length) (caps:=[.pointer (some ⟨b7,0,none⟩),.pointer (some ⟨b5,0,none⟩)]) bod94 (fun u hu=>knows_x (hu _ _ hv7) (hu _ _ hv5) hal) (hd.le hl1) hdl (ha.le hl1) (hb.le hl1) hal hbl) (fun x u hl hR=>?_)
 clear ho
 obtain⟨y,rfl,ax,cap,ys,rfl,hrow,hrows⟩:=hR
 have hlv:=hl1.trans hl
 have hv7':=hl _ _ hv7
 clear hv7 hv5 hbk
 unfold bothR
 generalize hr:A5y P d a b (knows act a.length)=r at *
 obtain⟨e,k,ws⟩:=r
 dsimp only at hrow hrows⊢
 by_cases h:e=0
 ·subst h
  rw [if_neg sM]
  obtain⟨hE,_,_,hws⟩:=laidR_ne (by rw [hr])
  have hok:=layE_ok.1 hE
  have hwl:ws.length<8192∧∀w∈ws,w.marks.length<2^30:=by
   rw [hr]at hws
   injection hws with _ hws
   injection hws with _ hws
   have:=hok.la;have:=hok.lb
   have h8:=pow3_8 (n:=a.length+b.length) oM
   rw [hws]
   refine⟨Nat.lt_of_le_of_lt bests_len h8,fun w hw=>?_⟩
   have:=ways_len (Nat.le_refl _) (A9v hw).1
   simp only [List.length_nil,Nat.zero_add]at this
   omega
  clear hr hws
  refine sw fun bx=>?_
  refine A1q (α:=Nat) (fun i=>⟨[],[(29,.int .i64 i),(28,.int .i64 ws.length),(27,.slice ax ws.length cap),(12,natV (A9z act (ws.take i))),(7,.pointer (some ⟨b7,0,none⟩)),(10,.pointer (some ⟨bx,0,none⟩))],[(bx,fwC k ax ws.length cap,170)]⟩)
   (fun i u'=>u'=u∧i≤ws.length) (fun i=>ws.length-i) 0 ⟨Y,rg,show Subm [(bx,fwC k ax ws.length cap,170)] [(bx,fwC k ax ws.length cap,170),(b4,(moV P aD d.length cD).cells,26)]from cntL⟩ (Le.refl _) ⟨Y,Nat.zero_le _⟩ ?_
  rintro i u' ⟨rfl,hi⟩
  refine su ?_
  refine A1i Y (fun h=>?_) (fun h=>?_)
  ·replace h:=fa h
   have hlt:i<ws.length:=oM
   obtain⟨bb,off,p,c,e,f,am,cm,ab,cb,rfl,hv,hc1,hc2,hm,_⟩:=rows_recd hrow hrows hlt
   have hml:=hwl.2 _ (List.getElem_mem hlt)
   have htk:A9z act (ws.take (i+1))=A9z act (ws.take i)+(if A5x act 0 ws[i].marks=0 then 1 else 0):=by
    unfold A9z
    rw [List.take_succ_eq_append_getElem hlt,List.countP_append]
    simp only [List.countP_cons,List.countP_nil,Nat.zero_add,beq_iff_eq]
   have hbn:A9z act (ws.take i)≤i:=by
    unfold A9z
    refine Nat.le_trans List.countP_le_length ?_
    rw [List.length_take];omega
   generalize ws[i]=w at hc2 hm hml htk
   refine su ?_
   refine A6d tab i Y Y Y Y Y Y Y hlt ?_
   refine A2b tab Y Y Y hv (A1g tab Y Y Y ⟨hc1,hc2⟩) ?_
   refine sw fun bx=>?_
   refine A2b tab Y Y Y hv7' (A0l tab Y Y Y Y) ?_
   refine su ?_
   refine Q_op fun ho=>A0u ho bod95 Y Y Y Y Y (mark_x hm hml) ?_
   clear ho
   refine su ?_
   by_cases h1:A5x act 0 w.marks=0
   ·rw [show(A5x act 0 w.marks==0)=true from by simpa using h1]
    rw [if_pos h1]at htk
    refine su ?_
    refine A0b ⟨i+1,u',oM,⟨Y,?_,cntL⟩,Le.refl _,Y,hlt⟩
    rw [htk]
    exact rg
   ·rw [show(A5x act 0 w.marks==0)=false from by simpa using h1]
    rw [if_neg h1,Nat.add_zero]at htk
    refine su ?_
    refine A0b ⟨i+1,u',oM,⟨Y,?_,cntL⟩,Le.refl _,Y,hlt⟩
    rw [htk]
    exact rg
  ·replace h:=fa h
   have hin:i=ws.length:=oM
   subst hin
   rw [List.take_length]
   unfold bothV
   refine su ?_
   by_cases h1:A9z act ws=0
   ·rw [h1,if_pos rfl]
    refine su ?_
    exact A0f tab [] (by exact .tmp rfl (.tmp rfl .nil)) (Back.le hlv cntL) ⟨Y,Y⟩
   ·rw [if_neg h1,show((A9z act ws:Int)==0)=false from by simp;omega]
    refine su ?_
    by_cases h2:A9z act ws=ws.length
    ·rw [if_pos h2,show((A9z act ws:Int)==(ws.length:Int))=true from by simp;omega]
     refine su ?_
     exact A0f tab [] (by exact .tmp rfl (.tmp rfl .nil)) (Back.le hlv cntL) ⟨Y,Y⟩
    ·rw [if_neg h2,show((A9z act ws:Int)==(ws.length:Int))=false from by simp;omega]
     refine su ?_
     exact A0f tab [] (by exact .tmp rfl (.tmp rfl .nil)) (Back.le hlv cntL) ⟨Y,Y⟩
 ·refine sw fun bx=>?_
  rw [show(e != 0)=true from by simpa using h]
  refine su ?_
  refine A0f tab [] (by exact .tmp rfl (.tmp rfl .nil)) (Back.le hlv cntL) ?_
  rw [if_pos h]
  exact⟨Y,Y⟩
end
end Go.Proofs.YtclejblcnfaeaaaGreatDoor
end
