/- Part 36. -/
import Derived.Test.YtclejblcnfaeaaaGreatPbe
import Derived.Test.YtclejblcnfaeaaaGreatPbf
import Derived.Test.YtclejblcnfaeaaaGreatPbh
import Derived.Test.YtclejblcnfaeaaaGreatPbi
set_option linter.all false
section
namespace Go.Proofs.YtclejblcnfaeaaaGreat.S
open Go Go.Pal Go.Conc View
open Go.Proofs.Tryz
open Go.Proofs.YtclejblcnfaeaaaGreat.W (wrapU wrapUr wrap8 len64_y len_x pow2_x next_x other)
open Go.Sort (swp PermIn SortedIn Below SWO)
set_option maxHeartbeats 4000000
section
variable{mn:Who}{v:View}{cap:Nat}{ζ:ZT}
structure PQ where
 x:Nat
 y:Nat
 lim:Nat
 wb:Bool
 wp:Bool
 d:Array E
 c:Array Value
def PdqS(mn:Who)(ζ:ZT)(cap N:Nat):Prop:=∀{v:View} {d:Array E} {c:Array Value} {b x y lim:Nat},zAt ζ v→y-x<N→DBz ζ cap d c→d.size<8192→x≤y→y≤d.size→lim<2^30→Below (ltE ζ) x y d→
 CallsB prog mn 127 #[slV b d.size cap,natV x,natV y,natV lim,cmV ζ] (RetB fun r β'=>r = .tuple #[]∧SBox ζ cap b (fun d'=>d'.size=d.size∧PermIn x y d d'∧SortedIn (ltE ζ) x y d') β') [(b,c,142)] v
theorem pdq_step{N:Nat}(IH:PdqS mn ζ cap N):PdqS mn ζ cap (N+1):=by
 intro v d c b x y lim hP hN hD h256 hxy hy hlim hB
 have hle:=hD.le
 refine A0d tab func127 Y nB (args:=[_,_,_,_,_]) ?_
 repeat (first|refine sr ?_|refine qb fun bx=>?_)
 refine A1l (α:=PQ) (fun z=>⟨[],[(0,slV b d.size cap),(1,natV z.x),(2,natV z.y),(4,cmV ζ),(3,natV z.lim),(10,.bool z.wb),(11,.bool z.wp)],[(b,z.c,142)]⟩)
  (fun z w=>w=v∧DBz ζ cap z.d z.c∧z.d.size=d.size∧x≤z.x∧z.x≤z.y∧z.y≤y∧z.lim<2^30∧Below (ltE ζ) z.x z.y z.d∧∀R,PermIn z.x z.y z.d R→SortedIn (ltE ζ) z.x z.y R→PermIn x y d R∧SortedIn (ltE ζ) x y R) (fun z=>z.y-z.x) ⟨x,y,lim,true,true,d,c⟩
  ⟨Y,rg,cntL⟩ (Le.refl _) ⟨Y,hD,Y,Nat.le_refl _,hxy,Nat.le_refl _,hlim,hB,fun R h1 h2=>⟨h1,h2⟩⟩ ?_
 rintro⟨x1,y1,lim1,wb,wp,d1,c1⟩ v ⟨rfl,hD1,hs1,hx1,hxy1,hy1,hl1,hB1,hR1⟩
 simp only at hD1 hs1 hx1 hxy1 hy1 hl1 hB1 hR1
 dsimp only
 obtain⟨l,hl⟩:∃l,l=y1-x1:=⟨_,rfl⟩
 repeat (first|refine sr ?_|refine qb fun bx=>?_)
 refine A2z ?_
 repeat (first|refine sr ?_|refine qb fun bx=>?_)
 rw [show((y1:Int)-(x1:Int))=(l:Int) by omega]
 by_cases h12:l≤12
 ·rw [show decide ((l:Int)≤12)=true from decide_eq_true oM]
  repeat (first|refine sr ?_|refine qb fun bx=>?_)
  refine Q_op fun ho=>A0k [(b,c1,142)] [] ho bod153 Y Y Y Y Y cntA (by rw [←hs1];exact A9h (zat hP) hD1 oM oM oM) (fun x β' hR=>?_)
  clear ho
  obtain⟨rfl,d2,c2,rfl,hD2,hs2,hp2⟩:=hR
  rw [List.append_nil]
  repeat (first|refine sr ?_|refine qb fun bx=>?_)
  refine A0f tab [(b,c2,142)] .nil (Back.here cntL) ?_
  have hh:=Go.Sort.insertionSort_holds (swoE ζ) d1 x1 y1 hxy1 oM
  rw [←hp2]at hh
  exact⟨Y,d2,c2,Y,hD2,oM,hR1 d2 hh.1 hh.2⟩
 rw [show decide ((l:Int)≤12)=false from decide_eq_false oM]
 repeat (first|refine sr ?_|refine qb fun bx=>?_)
 refine A2z ?_
 repeat (first|refine sr ?_|refine qb fun bx=>?_)
 by_cases h0:lim1=0
 ·rw [show((lim1:Int)==0)=true from by simp;omega]
  repeat (first|refine sr ?_|refine qb fun bx=>?_)
  refine Q_op fun ho=>A0k [(b,c1,142)] [] ho bod154 Y Y Y Y Y cntA (by rw [←hs1];exact heap_x (zat hP) hD1 oM oM oM) (fun x β' hR=>?_)
  clear ho
  obtain⟨rfl,d2,c2,rfl,hD2,hs2,hp2⟩:=hR
  rw [List.append_nil]
  repeat (first|refine sr ?_|refine qb fun bx=>?_)
  refine A0f tab [(b,c2,142)] .nil (Back.here cntL) ?_
  have hh:=Go.Sort.heapSort_holds (swoE ζ) d1 x1 y1 hxy1 oM
  rw [←hp2]at hh
  exact⟨Y,d2,c2,Y,hD2,oM,hR1 d2 hh.1 hh.2⟩
 rw [show((lim1:Int)==0)=false from by simp;omega]
 repeat (first|refine sr ?_|refine qb fun bx=>?_)
 -- breakPatterns
 refine A3p (fun τ w=>w=v∧∃(lim2:Nat) (d2:Array E) (c2:Array Value),τ=⟨[],[(0,slV b d.size cap),(1,natV x1),(2,natV y1),(4,cmV ζ),(3,natV lim2),(10,.bool wb),(11,.bool wp),(12,natV l)],[(b,c2,142)]⟩∧DBz ζ cap d2 c2∧d2.size=d.size∧lim2<2^30∧PermIn x1 y1 d1 d2) ?hc1 ?hs1
 case hs1=>
  refine A2z ?_
  repeat (first|refine sr ?_|refine qb fun bx=>?_)
  cases wb with
  | true=>
   repeat (first|refine sr ?_|refine qb fun bx=>?_)
   exact A0a ⟨_,v,⟨Y,lim1,d1,c1,Y,hD1,hs1,hl1,Go.Sort.permIn_refl _ _ _⟩,⟨Y,rg,cntL⟩,Le.refl _⟩
  | false=>
   repeat (first|refine sr ?_|refine qb fun bx=>?_)
   refine Q_op fun ho=>A0k [(b,c1,142)] [] ho bod155 Y Y Y Y Y cntA (by rw [←hs1];exact break_x hD1 oM oM oM oM) (fun x β' hR=>?_)
   clear ho
   obtain⟨rfl,d2,c2,rfl,hD2,hs2,hp2⟩:=hR
   rw [List.append_nil]
   repeat (first|refine sr ?_|refine qb fun bx=>?_)
   refine A0a ⟨_,v,⟨Y,lim1-1,d2,c2,Y,hD2,oM,oM,hp2⟩,⟨Y,?_,cntL⟩,Le.refl _⟩
   refine⟨Y,Y,Y,Y,?_,rg⟩
   show some (Value.int .i64 ((lim1:Int)-1))=some (Value.int .i64 ((lim1-1:Nat):Int))
   congr 2;omega
 rintro _ v ⟨rfl,lim2,d2,c2,rfl,hD2,hs2,hl2,hp2⟩
 have hB2:=Go.Sort.Below.permA Go.Sort.permIn_all oM hB1 hp2
 repeat (first|refine sr ?_|refine qb fun bx=>?_)
 refine Q_op fun ho=>A0k [(b,c2,142)] [] ho bod156 Y Y Y Y Y cntA (by rw [←hs2];exact pivot_x (zat hP) hD2 oM oM oM) (fun x β' hR=>?_)
 clear ho
 obtain⟨⟨k,h,hk,hh,rfl⟩,rfl⟩:=hR
 rw [List.append_nil]
 repeat (first|refine sr ?_|refine qb fun bx=>?_)
 -- the hint
 refine A3p (fun τ w=>w=v∧∃(k h:Nat) (d3:Array E) (c3:Array Value),τ=⟨[],[(0,slV b d.size cap),(1,natV x1),(2,natV y1),(4,cmV ζ),(3,natV lim2),(10,.bool wb),(11,.bool wp),(12,natV l),(13,natV k),(14,natV h)],[(b,c3,142)]⟩∧DBz ζ cap d3 c3∧d3.size=d.size∧(x1≤k∧k<y1)∧PermIn x1 y1 d2 d3) ?hc2 ?hs2
 case hs2=>
  refine A2z ?_
  repeat (first|refine sr ?_|refine qb fun bx=>?_)
  by_cases h2:h=2
  ·subst h2
   rw [show(((2:Nat):Int)==2)=true from rfl]
   repeat (first|refine sr ?_|refine qb fun bx=>?_)
   refine Q_op fun ho=>A0k [(b,c2,142)] [] ho bod157 Y Y Y Y Y cntA (by rw [←hs2];exact B2z hD2 oM oM oM) (fun x β' hR=>?_)
   clear ho
   obtain⟨rfl,d3,c3,rfl,hD3,hp3⟩:=hR
   rw [List.append_nil]
   repeat (first|refine sr ?_|refine qb fun bx=>?_)
   refine A0a ⟨_,v,⟨Y,y1-1-(k-x1),1,d3,c3,Y,hD3,by rw [hp3.1];exact hs2,oM,hp3⟩,⟨Y,?_,cntL⟩,Le.refl _⟩
   refine⟨Y,Y,Y,Y,Y,Y,Y,Y,?_,rg⟩
   show some (Value.int .i64 ((y1:Int)-1-((k:Int)-(x1:Int))))=some (Value.int .i64 ((y1-1-(k-x1):Nat):Int))
   congr 2;omega
  ·rw [show((h:Int)==2)=false from by simp;omega]
   repeat (first|refine sr ?_|refine qb fun bx=>?_)
   exact A0a ⟨_,v,⟨Y,k,h,d2,c2,Y,hD2,hs2,hk,Go.Sort.permIn_refl _ _ _⟩,⟨Y,rg,cntL⟩,Le.refl _⟩
 clear hk hh h k
 rintro _ v ⟨rfl,k,h,d3,c3,rfl,hD3,hs3,hk,hp3⟩
 have hB3:=Go.Sort.Below.permA Go.Sort.permIn_all oM hB2 hp3
 have hp13:=Go.Sort.permIn_trans _ _ _ _ _ hp2 hp3
 -- partialInsertionSort
 refine A3p (fun τ w=>w=v∧∃(d4:Array E) (c4:Array Value),τ=⟨[],[(0,slV b d.size cap),(1,natV x1),(2,natV y1),(4,cmV ζ),(3,natV lim2),(10,.bool wb),(11,.bool wp),(12,natV l),(13,natV k)],[(b,c4,142)]⟩∧DBz ζ cap d4 c4∧d4.size=d.size∧PermIn x1 y1 d3 d4) ?hc3 ?hs3
 case hs3=>
  refine A2z ?_
  by_cases hgo:wb=true∧wp=true∧h=1
  ·obtain⟨rfl,rfl,rfl⟩:=hgo
   repeat (first|refine sr ?_|refine qb fun bx=>?_)
   refine Q_op fun ho=>A0k [(b,c3,142)] [] ho bod158 Y Y Y Y Y cntA (by rw [←hs3];exact B3f (zat hP) hD3 oM oM oM) (fun x β' hR=>?_)
   clear ho
   obtain⟨rfl,d4,c4,rfl,hD4,hs4,hp4⟩:=hR
   rw [List.append_nil]
   have hh:=Go.Sort.partialInsertionSort_holds (swoE ζ) d3 x1 y1 oM oM hB3
   rw [←hp4]at hh
   cases hb:(Go.Sort.partialInsertionSort (ltE ζ) d3 x1 y1).2 with
   | true=>
    repeat (first|refine sr ?_|refine qb fun bx=>?_)
    refine A0f tab [(b,c4,142)] .nil (Back.here cntL) ?_
    exact⟨Y,d4,c4,Y,hD4,oM,hR1 d4 (Go.Sort.permIn_trans _ _ _ _ _ hp13 hh.1) (hh.2 hb)⟩
   | false=>
    repeat (first|refine sr ?_|refine qb fun bx=>?_)
    exact A0a ⟨_,v,⟨Y,d4,c4,Y,hD4,oM,hh.1⟩,⟨Y,rg,cntL⟩,Le.refl _⟩
  ·cases wb with
   | false=>
    repeat (first|refine sr ?_|refine qb fun bx=>?_)
    exact A0a ⟨_,v,⟨Y,d3,c3,Y,hD3,hs3,Go.Sort.permIn_refl _ _ _⟩,⟨Y,rg,cntL⟩,Le.refl _⟩
   | true=>
    cases wp with
    | false=>
     repeat (first|refine sr ?_|refine qb fun bx=>?_)
     exact A0a ⟨_,v,⟨Y,d3,c3,Y,hD3,hs3,Go.Sort.permIn_refl _ _ _⟩,⟨Y,rg,cntL⟩,Le.refl _⟩
    | true=>
     repeat (first|refine sr ?_|refine qb fun bx=>?_)
     have hne:h≠1:=fun e=>hgo ⟨Y,Y,e⟩
     rw [show((h:Int)==1)=false from by simp;omega]
     repeat (first|refine sr ?_|refine qb fun bx=>?_)
     exact A0a ⟨_,v,⟨Y,d3,c3,Y,hD3,hs3,Go.Sort.permIn_refl _ _ _⟩,⟨Y,rg,cntL⟩,Le.refl _⟩
 rintro _ v ⟨rfl,d4,c4,rfl,hD4,hs4,hp4⟩
 have hB4:=Go.Sort.Below.permA Go.Sort.permIn_all oM hB3 hp4
 have hp14:=Go.Sort.permIn_trans _ _ _ _ _ hp13 hp4
 clear hB1 hB2 hB3 hp2 hp3 hp4 hp13 hD1 hD2 hD3
 -- partitionEqual?
 refine A3p (fun τ w=>w=v∧τ=⟨[],[(0,slV b d.size cap),(1,natV x1),(2,natV y1),(4,cmV ζ),(3,natV lim2),(10,.bool wb),(11,.bool wp),(12,natV l),(13,natV k)],[(b,c4,142)]⟩) ?hc4 ?hs4
 case hs4=>
  refine A2z ?_
  repeat (first|refine sr ?_|refine qb fun bx=>?_)
  refine lexL A1c Y kR ?_
  repeat (first|refine st ?_|refine qb fun bx=>?_)
  by_cases hx0:0<x1
  ·rw [show decide ((x1:Int) > 0)=true from decide_eq_true oM]
   repeat (first|refine st ?_|refine qb fun bx=>?_)
   refine A1a tab (x1-1) Y Y Y Y oM Y Y oM ?_
   refine A0s tab Y Y Y InB.head (hD4.rdE oM) ?_
   repeat (first|refine st ?_|refine qb fun bx=>?_)
   refine A1a tab k Y Y Y Y oM Y Y oM ?_
   refine A0s tab Y Y Y InB.head (hD4.rdE oM) ?_
   repeat (first|refine st ?_|refine qb fun bx=>?_)
   refine A1z A8z Y Y Y Y Y (A1h (zat hP) (hD4.ok oM) (hD4.ok oM)) ?_
   repeat (first|refine st ?_|refine qb fun bx=>?_)
   cases hlt:ltE ζ d4[x1-1]! d4[k]! with
   | true=>
    rw [show decide (cmE ζ d4[x1-1]! d4[k]! < 0)=true from hlt]
    repeat (first|refine sr ?_|refine qb fun bx=>?_)
    exact A0a ⟨_,v,⟨Y,Y⟩,⟨Y,rg,cntL⟩,Le.refl _⟩
   | false=>
    rw [show decide (cmE ζ d4[x1-1]! d4[k]! < 0)=false from hlt]
    repeat (first|refine sr ?_|refine qb fun bx=>?_)
    refine Q_op fun ho=>A0k [(b,c4,142)] [] ho bod159 Y Y Y Y Y cntA (by rw [←hs4];exact partEq_x (zat hP) hD4 oM hk.1 hk.2 oM) (fun x β' hR=>?_)
    clear ho
    obtain⟨rfl,d5,c5,rfl,hD5,hs5,hp5⟩:=hR
    rw [List.append_nil]
    obtain⟨m,hm⟩:∃m,m=(Go.Sort.partitionEqual (ltE ζ) d4 x1 y1 k).1:=⟨_,rfl⟩
    rw [←hm]
    obtain⟨q1,q2,q3,q4,q5⟩:=Go.Sort.round_eq (swoE ζ) (Go.Sort.partitionEqual_holds _) hx0 hk.1 hk.2 oM hB4 hlt (mid:=m) (d4:=d5) (by rw [hm,hp5])
    repeat (first|refine sr ?_|refine qb fun bx=>?_)
    refine A0a ⟨⟨m,y1,lim2,wb,wp,d5,c5⟩,v,by simp only;omega,⟨Y,rg,cntL⟩,Le.refl _,Y,hD5,by simp only;omega,by simp only;omega,q2,hy1,hl2,q4,fun R r1 r2=>?_⟩
    obtain⟨r3,r4⟩:=q5 R r1 r2
    exact hR1 R (Go.Sort.permIn_trans _ _ _ _ _ hp14 r3) r4
  ·rw [show decide ((x1:Int) > 0)=false from decide_eq_false oM]
   repeat (first|refine sr ?_|refine qb fun bx=>?_)
   exact A0a ⟨_,v,⟨Y,Y⟩,⟨Y,rg,cntL⟩,Le.refl _⟩
 rintro _ v ⟨rfl,rfl⟩
 repeat (first|refine sr ?_|refine qb fun bx=>?_)
 refine Q_op fun ho=>A0k [(b,c4,142)] [] ho bod160 Y Y Y Y Y cntA (by rw [←hs4];exact part_x (zat hP) hD4 oM hk.1 hk.2 oM) (fun x β' hR=>?_)
 clear ho
 obtain⟨rfl,d5,c5,rfl,hD5,hs5,hp5⟩:=hR
 rw [List.append_nil]
 obtain⟨m,hm⟩:∃m,m=(Go.Sort.partition (ltE ζ) d4 x1 y1 k).1:=⟨_,rfl⟩
 obtain⟨ap,hap⟩:∃ap,ap=(Go.Sort.partition (ltE ζ) d4 x1 y1 k).2.1:=⟨_,rfl⟩
 rw [←hm,←hap]
 obtain⟨q1,q2,q3,q4,q5,q6,q7⟩:=Go.Sort.round_part (swoE ζ) (Go.Sort.partition_holds _) hk.1 hk.2 oM hB4 (mid:=m) (d4:=d5) (ap:=ap) (by rw [hm,hap,hp5])
 repeat (first|refine sr ?_|refine qb fun bx=>?_)
 by_cases hlr:m-x1<y1-m
 ·rw [show decide ((m:Int)-(x1:Int)<(y1:Int)-(m:Int))=true from decide_eq_true oM]
  repeat (first|refine sr ?_|refine qb fun bx=>?_)
  refine Q_op fun ho=>A0k [(b,c5,142)] [] ho bod127 Y Y Y Y Y cntA (by rw [show d.size=d5.size by omega];exact IH (x:=x1) (y:=m) (zat hP) oM hD5 oM q1 oM hl2 q4) (fun x β' hR=>?_)
  clear ho
  obtain⟨rfl,d6,c6,rfl,hD6,hs6,hp6,hso6⟩:=hR
  rw [List.append_nil]
  obtain⟨r1,r2⟩:=q6 d6 hp6 hso6
  repeat (first|refine sr ?_|refine qb fun bx=>?_)
  refine A0a ⟨⟨m+1,y1,lim2,_,ap,d6,c6⟩,v,by simp only;omega,⟨Y,rg,cntL⟩,Le.refl _,Y,hD6,by simp only;omega,by simp only;omega,q2,hy1,hl2,r1,fun R t1 t2=>?_⟩
  obtain⟨r3,r4⟩:=r2 R t1 t2
  exact hR1 R (Go.Sort.permIn_trans _ _ _ _ _ hp14 r3) r4
 ·rw [show decide ((m:Int)-(x1:Int)<(y1:Int)-(m:Int))=false from decide_eq_false oM]
  repeat (first|refine sr ?_|refine qb fun bx=>?_)
  refine Q_op fun ho=>A0k [(b,c5,142)] [] ho bod127 Y Y Y Y Y cntA (by rw [show d.size=d5.size by omega];exact IH (x:=m+1) (y:=y1) (zat hP) oM hD5 oM q2 oM hl2 q5) (fun x β' hR=>?_)
  clear ho
  obtain⟨rfl,d6,c6,rfl,hD6,hs6,hp6,hso6⟩:=hR
  rw [List.append_nil]
  obtain⟨r1,r2⟩:=q7 d6 hp6 hso6
  repeat (first|refine sr ?_|refine qb fun bx=>?_)
  refine A0a ⟨⟨x1,m,lim2,_,ap,d6,c6⟩,v,by simp only;omega,⟨Y,rg,cntL⟩,Le.refl _,Y,hD6,by simp only;omega,hx1,q1,by simp only;omega,hl2,r1,fun R t1 t2=>?_⟩
  obtain⟨r3,r4⟩:=r2 R t1 t2
  exact hR1 R (Go.Sort.permIn_trans _ _ _ _ _ hp14 r3) r4
theorem pdq_x:∀N,PdqS mn ζ cap N
 | 0=>fun _ h=>absurd h (Nat.not_lt_zero _)
 | N+1=>pdq_step (pdq_x N)
end
section
variable{mn:Who}{v:View}{cap:Nat}{ζ:ZT}{d:Array E}{c:Array Value}
theorem sort_x{b:Nat}(hP:zAt ζ v)(hD:DBz ζ cap d c)(h256:d.size<8192) :
  CallsB prog mn 94 #[slV b d.size cap,cmV ζ] (RetB fun r β'=>r = .tuple #[]∧SBox ζ cap b (fun d'=>d'.size=d.size∧PermIn 0 d.size d d'∧SortedIn (ltE ζ) 0 d.size d') β') [(b,c,142)] v:=by
 refine A0d tab func94 Y nB (args:=[_,_]) ?_
 repeat (first|refine st ?_|refine qb fun bx=>?_)
 rw [wrapU oM]
 refine Q_op fun ho=>A0y ho bod128 Y Y Y Y Y (len_x (x:=d.size) h256) ?_
 clear ho
 repeat (first|refine st ?_|refine qb fun bx=>?_)
 have h8:=(len64_y (mn:=mn) (v:=v) h256).2
 refine Q_op fun ho=>A0k [(b,c,142)] [] ho bod127 Y Y Y Y Y cntA (pdq_x (d.size+1) (zat hP) (x:=0) oM hD h256 (Nat.zero_le _) (Nat.le_refl _) oM (.inl Y)) (fun x β' hR=>?_)
 clear ho
 obtain⟨rfl,d2,c2,rfl,hD2,hs2,hp2⟩:=hR
 rw [List.append_nil]
 repeat (first|refine st ?_|refine qb fun bx=>?_)
 refine A1n tab [(b,c2,142)] .nil (Back.here cntL) ?_
 exact⟨Y,d2,c2,Y,hD2,hs2,hp2⟩
end
end Go.Proofs.YtclejblcnfaeaaaGreat.S
end
section
namespace Go.Pal
open Go Go.Conc View
def Aside(R:View→Goroutine→Prop)(F:View):View→Goroutine→Prop:=fun v g=>Disj v F→R (v.union F) g
theorem Abs.aside{P:Program}{mn:Who}{R:View→Goroutine→Prop}{F:View}(A:Abs P mn R):Abs P mn (Aside R F):=⟨fun h hd=>A.run ((h.frame hd).mono fun v' g' ⟨u,e,hd',hs⟩=>e ▸ .stop (Le.refl _) (hs hd'))⟩
section
variable{P:Program}{mn:Who}{n:Nat}{Q:Exit→St→View→Prop}{ds:List Deferred}{ρ:Regs}{β:A0g}{v:View}
theorem XC_rangeRet{fop:Operand}{params:Array Tmp}{assign body:Code}{kf:FuncId}{first captured:Array Value}(hf:ρ.val fop=some (.func (.func kf) first captured))(hB:A0j P kf)
  (h:∀(a:Act) (fn:FuncId) (r l:Nat),Fits n ⟨ds,ρ,β⟩ a→Bok β v→(v.union (A0c β)) r=none→(v.union (A0c β)) l=none→r≠l→∀(Stop:View→Goroutine→Prop) (c:Frame) (cs:List Frame),c.mode = .run→
   (∀x w lp,w l=some (true,.loop lp)→lp.state≠.busy→(∃β' v',Bok β' v'∧(v'.union (A0c β')).Le (w.set l true (.loop {lp with state:=.exhausted }))∧
    (lp.pending=none∧Q .normal ⟨coll r::ds,ρ,β'⟩ v'∨lp.pending=some .ret∧Q .ret ⟨coll r::ds,ρ,β'⟩ v'))→Run P mn Stop w (G (c.finish x) cs))→
   Run P mn Stop (((v.union (A0c β)).set r true (.deferred (some []))).set l true (.loop {state:=.ready,pending:=none,fn:=fn,tmps:=a.tmps,params:=params,assign:=assign,body:=body,defers:=r })) (G (Frame.enter P kf (first++#[.func (.yield l) #[] #[]]++captured) .normal) (c::cs))) :
  XC P mn none n (.rangeFunc fop params assign body) Q ⟨ds,ρ,β⟩ v:=fun a hf' hb Stop b k cs hk hr hq=>by
 refine A9w hk hr (A0l hf' _ _ hf) hB fun r l h1 h2 h3 c hc hend=>h a b.fn r l hf' hb h1 h2 h3 Stop c cs hc fun x w lp hl hns ⟨β',v',hb2,hle,hcase⟩=>hend Stop x w lp hl hns ?_
 have hfit:Fits n ⟨coll r::ds,ρ,β'⟩ ⟨a.tmps,{target:=.collected r,args:=#[] }::a.defers⟩:=⟨hf'.size,by show _::_=_::_;rw [hf'.defers],hf'.get⟩
 rcases hcase with ⟨hp,hQ⟩|⟨hp,hQ⟩
 ·rw [hp]at hle⊢
  exact hq .normal _ _ ⟨_,v',hQ,hfit,hb2,hle⟩
 ·rw [hp]at hle⊢
  exact hq .ret _ _ ⟨_,v',hQ,hfit,hb2,hle⟩ k
end
section
variable{P:Program}{mn:Who}(T:Tab P){v:View}
def FnVM(fn:Func)(R:Value→View→Prop)(v:View):Exit→St→View→Prop
 | .normal,σ,u | .ret,σ,u=>∃rs:List Nat,σ.ds=rs.map coll∧rs.Nodup∧(∀r∈rs,u r=some (true,.deferred (some []))∧v r=none)∧v.Le u∧∃xs,ResL T σ.ρ σ.β fn.results.toList xs∧(∀u0,Bok σ.β u0→v.Le u0→R (A4l xs) (u0.union (A0c σ.β)))
 | _,_,_=>False
theorem callV_fnVM{f:FuncId}{fn:Func}{c:Code}{args:List Value}{R:Value→View→Prop}(hf:P.funcs[f]?=some fn)(hb:fn.body=some c)(hn:args.length≤fn.ntmps)
  (h:XC P mn none fn.ntmps c (FnVM T fn R v) ⟨[],A2y 0 args,[]⟩ v):CallV P mn f args R v:=by
 intro Stop cf cs hc hR
 let b:Frame:={fn:=f,tmps:=#[],todo:=[],defers:=[],mode:=.run,kind:=.normal }
 have henter:Frame.enter P f args.toArray .normal=b.on {tmps:=args.toArray++Array.replicate (fn.ntmps-args.toArray.size) undef,defers:=[] } [.code c]:=by
  simp [Frame.enter,Frame.on,hf,hb,b]
 rw [henter]
 have h0:=h _ (B0g hn) (A4o _)
 rw [show v.union (A0c (St.β ⟨[],A2y 0 args,[]⟩))=v from A1x v]at h0
 refine h0 Stop b [] (cf::cs) (by simp [b]) Y fun e a' w hQ=>?_
 obtain⟨⟨ds',ρ',β'⟩,u,hq,hf',hb',hl⟩:=hQ
 have hgo:∀(fr:Frame) (rs:List Nat),fr.mode = .returning→fr.kind = .normal→fr.fn=f→fr.tmps=a'.tmps→fr.defers=rs.map coll→rs.Nodup→(∀r∈rs,u r=some (true,.deferred (some []))∧v r=none)→v.Le u→
   (∃xs,ResL T ρ' β' fn.results.toList xs∧(∀u0,Bok β' u0→v.Le u0→R (A4l xs) (u0.union (A0c β'))))→Run P mn Stop w (G fr (cf::cs)):=by
  intro fr rs h1 h2 h3 h4 h5 h6 h7 hvu ⟨xs,h8,h9⟩
  refine run_marks rs w fr h1 h5 h6 (fun r hr=>hl _ _ (A3h (h7 r hr).1)) (fun w' hw'=>?_)
  obtain⟨u0,hu0⟩:∃u0:View,u0=fun b=>if b∈rs then none else u b:=⟨_,rfl⟩
  have h0:u0.Le u:=fun b x hx=>by
   rw [hu0]at hx
   simp only at hx
   split at hx
   ·cases hx
   ·exact hx
  have hv0:v.Le u0:=fun b x hx=>by
   rw [hu0]
   simp only
   split
   ·rename_i hbr;rw [(h7 b hbr).2]at hx;cases hx
   ·exact hvu _ _ hx
  have hb0:Bok β' u0:=⟨hb'.nodup,disj_le hb'.disj h0⟩
  have hbn:∀r∈rs,A0c β' r=none:=fun r hr=>(hb'.disj r).resolve_left (by rw [(h7 r hr).1];simp)
  have hle:(u0.union (A0c β')).Le w':=fun b x hx=>by
   by_cases hbr:b∈rs
   ·exfalso
    unfold View.union at hx
    rw [hu0]at hx
    simp only [if_pos hbr]at hx
    rw [hbn b hbr]at hx
    cases hx
   ·rw [hw' b hbr]
    refine hl b x ?_
    unfold View.union at hx⊢
    rw [hu0]at hx
    simp only [if_neg hbr]at hx
    exact hx
  refine Run.weaken ?_ hle
  refine A7z (R:=fun e u=>∃x,e = .ret x∧v.Le u∧R x u) (by simpa using h1) Y (by simpa using h2) (by simpa [h3]using hf) ?_ hR
  simp only [h4]
  unfold results
  rw [A0b,Array.mapM_eq_mapM_toList,sx_map]
  refine sx_resL T (n:=fn.ntmps) (ds:=ds') hf' hb0 (Le.refl _) h8 ?_
  rw [A0i]
  refine⟨_,Y,hv0.trans (A0e _ _),?_⟩
  have h10:=h9 u0 hb0 hv0
  match xs,h10 with
  | [],h2=>simpa [A4l]using h2
  | [x],h2=>simpa [A4l]using h2
  | x::y::r,h2=>simpa [A4l]using h2
 cases e with
 | normal=>
  obtain⟨rs,h1,h2,h3,h4,h5⟩:=hq
  refine Run.ctl Y (g':=G {b.on a' []with mode:=.returning } (cf::cs)) (fun w=>by simp [G,stepG,stepG.exec,Frame.on,b]) ?_
  exact hgo _ rs Y Y Y Y (hf'.defers.trans h1) h2 h3 h4 h5
 | ret=>
  obtain⟨rs,h1,h2,h3,h4,h5⟩:=hq
  intro todo
  refine Run.ctl Y (g':=G {b.on a' (.code .ret::todo)with mode:=.returning } (cf::cs)) (fun w=>by simp [G,stepG,stepG.exec,Frame.on,b]) ?_
  exact hgo _ rs Y Y Y Y (hf'.defers.trans h1) h2 h3 h4 h5
 | panic ch=>exact hq.elim
 | exit id=>exact hq.elim
 | goto l=>exact hq.elim
 | outgrown=>exact hq.elim
theorem FnVM_ret{fn:Func}{R:Value→View→Prop}{u:View}{ds:List Deferred}{ρ:Regs}{β:A0g}{xs:List Value}(rs:List Nat)(hds:ds=rs.map coll)(hn:rs.Nodup)(hm:∀r∈rs,u r=some (true,.deferred (some []))∧v r=none)(hl:v.Le u)(hr:ResL T ρ β fn.results.toList xs)(hR:∀u0,Bok β u0→v.Le u0→R (A4l xs) (u0.union (A0c β))):FnVM T fn R v .ret ⟨ds,ρ,β⟩ u:=⟨rs,hds,hn,hm,hl,xs,hr,hR⟩
end
attribute [irreducible] FnVM
end Go.Pal
end
section
namespace Go.Proofs.YtclejblcnfaeaaaGreat
open Go Go.Pal Go.Pal.To Go.Conc View
open Go.Proofs.Tryz
set_option maxHeartbeats 4000000
set_option maxRecDepth 20000
noncomputable def stTail:Code:=match f40.body with|some (.seq _ (.seq _ (.seq _ (.seq _ (.seq _ (.seq _ c))))))=>c|_=>.skip
noncomputable def stBod:Code:=match stTail with | .seq _ (.seq (.seq _ (.block _ (.loop (.seq _ (.seq _ (.seq (.block _ (.seq _ (.seq _ (.seq _ (.block _ (.rangeFunc _ _ _ c)))))) _)))))) _)=>c|_=>.skip
abbrev stReg(b6 b7 b8 b15 b16:Nat):Regs:=[(15,.pointer (some ⟨b15,0,none⟩)),(16,.pointer (some ⟨b16,0,none⟩)),(6,.pointer (some ⟨b6,0,none⟩)),(7,.pointer (some ⟨b7,0,none⟩)),(8,.pointer (some ⟨b8,0,none⟩))]
abbrev stBx(b6 b7 b8 b15 b16:Nat)(x6 x7 x8 xp xq:Value)(rest:A0g):A0g:=[(b6,List.toArray [x6],22),(b7,List.toArray [x7],22),(b8,List.toArray [x8],34),(b15,List.toArray [xp],22),(b16,List.toArray [xq],22)]++rest
noncomputable abbrev A3y (fn:FuncId) (tmps:Array Value) (r:Nat):Loop:={state:=.ready,pending:=none,fn:=fn,tmps:=tmps,params:=#[74],assign:=.skip,body:=stBod,defers:=r }
theorem set_set{u:View}{l:Nat}{p p':Bool}{o o':Obj}:(u.set l p o).set l p' o'=u.set l p' o':=by
 funext x
 unfold View.set
 split<;>rfl
section
variable{b6 b7 b8 b15 b16:Nat}{x6 x7 x8:Value}{ap aq:Option Addr}{np nq cp cq:Nat}{rest:A0g}
theorem stRound_x{fn:FuncId}{Stop:View→Goroutine→Prop}{l r:Nat}{tmps:Array Value}{u:View}{y:Value}{cf:Frame}{fs:List Frame}(hul:u l=some (true,.loop (A3y fn tmps r)))(hB:Bok (stBx b6 b7 b8 b15 b16 x6 x7 x8 (.slice ap np cp) (.slice aq nq cq) rest) u)
  (hfit:Fits f40.ntmps ⟨[],stReg b6 b7 b8 b15 b16,[]⟩ ⟨tmps,[]⟩)
  (hend:Run prog ⟨true,true⟩ Stop ((u.set l true (.loop (lpD (A3y fn tmps r)))).union (A0c (stBx b6 b7 b8 b15 b16 (.slice ap np cp) (.slice aq nq cq) (intV 0) (.slice ap np cp) (.slice aq nq cq) rest))) (G (cf.finish (.bool false)) fs)) :
  Run prog ⟨true,true⟩ Stop (u.union (A0c (stBx b6 b7 b8 b15 b16 x6 x7 x8 (.slice ap np cp) (.slice aq nq cq) rest))) (G (Frame.round l fn (((#[74]:Array Tmp).zip #[y]).foldl (fun tmps (t,a)=>tmps.setIfInBounds t a) tmps) .skip stBod .normal) (cf::fs)):=by
 have hfit2:Fits f40.ntmps ⟨[],(74,y)::stReg b6 b7 b8 b15 b16,stBx b6 b7 b8 b15 b16 x6 x7 x8 (.slice ap np cp) (.slice aq nq cq) rest⟩ ⟨tmps.setIfInBounds 74 y,[]⟩:=by
  have:=A1i (d:=some 74) (x:=y) hfit Y
  exact⟨this.size,this.defers,this.get⟩
 refine R_round (R:=Run prog ⟨true,true⟩ Stop) (m:=f40.ntmps) (ρ:=(74,y)::stReg b6 b7 b8 b15 b16) (Q:=fun e σ u'=>e = .normal∧u'=u∧σ=⟨[],(74,y)::stReg b6 b7 b8 b15 b16,stBx b6 b7 b8 b15 b16 x6 x7 x8 (.slice ap np cp) (.slice aq nq cq) rest⟩) hul Y hB (by simpa using hfit2) ?_ ?_
 ·exact B4a ⟨Y,Y,Y⟩
 ·rintro e σ u' ⟨rfl,rfl,rfl⟩ hB'
  refine⟨Y,Y,hul,fun _ k2=>?_⟩
  have hbk:(rdF fn l).kind≠.early:=by simp
  dsimp only
  rw [A3l]
  have hB2:=B2i (p':=true) (o':=.loop {A3y fn tmps r with state:=.busy }) hB hul
  refine B1m ?_
  refine A4a ?_
  refine R_co hbk hB2 ?_
  refine A1f [2,3,4] [0,1,2,3,4] A1c Y kR ?_
  repeat (first|refine st ?_|refine qb fun bx=>?_)
  refine A1m fun hβ=>?_
  refine k2 (Run prog ⟨true,true⟩ Stop) inferInstance _ _ _ _ (by exact A3h (by unfold View.set;rw [if_pos rfl])) ?_
  rw [A3l,set_set]
  exact hend
def stR(Stop:View→Goroutine→Prop)(N:Nat)(Fo Fn:A0g)(s:List Wy):View→Goroutine→Prop:=fun v g=>s.length≤N→Aside (Run prog ⟨true,true⟩ Stop) (if s.length=N then A0c Fo else A0c Fn) v g
theorem stR_abs{Stop:View→Goroutine→Prop}{N:Nat}{Fo Fn:A0g}(s:List Wy):Abs prog ⟨true,true⟩ (stR Stop N Fo Fn s):=⟨fun h hlen=>by
 haveI:Abs prog ⟨true,true⟩ (Run prog ⟨true,true⟩ Stop):=inferInstance
 exact(Abs.aside this).run (h.mono fun v g hR=>.stop (Le.refl _) (hR hlen))⟩
theorem union_none{u F:View}{b:Nat}(h:(u.union F) b=none):u b=none∧F b=none:=by
 unfold View.union at h
 cases e:u b with
 | none=>rw [e]at h;exact⟨rfl,h⟩
 | some x=>rw [e]at h;cases h
theorem bok_of{β:A0g}{v:View}(hn:(β.map (·.1)).Nodup)(hd:Disj v (A0c β)):Bok β v:=⟨hn,hd⟩
theorem stTakes_x{fn:FuncId}{Stop:View→Goroutine→Prop}{N l r:Nat}{tmps:Array Value}{V0:View}(hl:V0 l=some (true,.loop (A3y fn tmps r)))(hfit:Fits f40.ntmps ⟨[],stReg b6 b7 b8 b15 b16,[]⟩ ⟨tmps,[]⟩)
  (hnd:((stBx b6 b7 b8 b15 b16 x6 x7 x8 (.slice ap np cp) (.slice aq nq cq) rest).map (·.1)).Nodup) :
  Takes (stR Stop N (stBx b6 b7 b8 b15 b16 x6 x7 x8 (.slice ap np cp) (.slice aq nq cq) rest) (stBx b6 b7 b8 b15 b16 (.slice ap np cp) (.slice aq nq cq) (intV 0) (.slice ap np cp) (.slice aq nq cq) rest)) V0 l (A3y fn tmps r) false:=by
 intro w s u β y cf fs hu hβ hw hcf hend
 intro hlen
 have hs:s.length<N:=by simp only [List.length_cons]at hlen;omega
 have hend':=hend oM
 rw [if_neg oM]at hend'
 have hul:=hu _ _ hl
 have hul2:(u.union (A0c β)) l=some (true,.loop (A3y fn tmps r)):=A3h hul
 have key:∀{z6 z7 z8:Value},((stBx b6 b7 b8 b15 b16 z6 z7 z8 (.slice ap np cp) (.slice aq nq cq) rest).map (·.1)).Nodup→Disj (u.union (A0c β)) (A0c (stBx b6 b7 b8 b15 b16 z6 z7 z8 (.slice ap np cp) (.slice aq nq cq) rest))→
   Run prog ⟨true,true⟩ Stop ((u.union (A0c β)).union (A0c (stBx b6 b7 b8 b15 b16 z6 z7 z8 (.slice ap np cp) (.slice aq nq cq) rest))) (G (Frame.round l fn (((#[74]:Array Tmp).zip #[y]).foldl (fun tmps (t,a)=>tmps.setIfInBounds t a) tmps) .skip stBod .normal) (cf::fs)):=by
  intro z6 z7 z8 hn hd
  refine stRound_x hul2 (bok_of hn hd) hfit ?_
  have hB1:Bok (stBx b6 b7 b8 b15 b16 (.slice ap np cp) (.slice aq nq cq) (intV 0) (.slice ap np cp) (.slice aq nq cq) rest) (u.union (A0c β)):=B0i (bok_of hn hd) Y
  have hB2:=B2i (p':=true) (o':=.loop (lpD (A3y fn tmps r))) hB1 hul2
  have hle:(u.set l true (.loop (lpD (A3y fn tmps r)))).Le ((u.union (A0c β)).set l true (.loop (lpD (A3y fn tmps r)))):=set_le (A0e _ _)
  exact Run.weaken (hend' (disj_le hB2.disj hle)) (A2u hle hB2.disj)
 split
 ·exact fun hd=>key hnd hd
 ·exact fun hd=>key hnd hd
end
end Go.Proofs.YtclejblcnfaeaaaGreat
end
section
namespace Go.Pal.To
def rightS(d:List Int)(a b:List MA)(p q:List Int):Prop:=To.ways (A3s a p) (A3s b q) ⟨[],[],d⟩≠[]
def A9c(d:List Int)(a b:List MA)(s:Nat):Prop:=rightS d a b (pL s a.length (a.length+b.length)) (qL s a.length (a.length+b.length))
def B0l(P:Int)(d:List Int)(a b:List MA)(r:Int×List Int×List Int):Prop:=
 if layE P d a b≠0 then r=(layE P d a b,[],[])else
  ∃ s,s<2 ^ (a.length+b.length)∧r=(0,pL s a.length (a.length+b.length),qL s a.length (a.length+b.length))∧A9c d a b s∧
   ∀t,t<2 ^ (a.length+b.length)→A9c d a b t→¬A5z (cntN t) (pL t a.length (a.length+b.length)) (qL t a.length (a.length+b.length)) (cntN s) (pL s a.length (a.length+b.length)) (qL s a.length (a.length+b.length))
theorem inL_iff{l:List Int}{n:Int}:inL l n=true↔n∈l:=by
 unfold inL
 rw [List.any_eq_true]
 constructor
 ·rintro⟨x,h1,h2⟩
  rw [beq_iff_eq]at h2
  rw [h2];exact h1
 ·intro h;exact⟨n,h,by simp⟩
theorem A8e:∀{l:List MA} {i:Nat} {out:List Int},(∀j,i≤j→j<i+l.length→(j:Int)∈out)→A3a i l out=[]
 | [],_,_,_=>rfl
 | x::l,i,out,h=>by
  unfold A3a
  rw [if_pos (inL_iff.2 (h i (Nat.le_refl _) sM))]
  exact A8e fun j h1 h2=>h j oM (by simp only [List.length_cons];omega)
theorem hasN_top:(List.range 9).all (fun n=>(List.range n).all fun i=>hasN (2 ^ n-1) i)=true:=by decide
theorem hasN_all{n i:Nat}(hn:n≤8)(hi:i<n):hasN (2 ^ n-1) i=true:=
 List.all_eq_true.1 (List.all_eq_true.1 hasN_top n (List.mem_range.2 oM)) i (List.mem_range.2 hi)
theorem mem_pL{s na i:Nat}{x:Int}:x∈pL s na i↔∃n,n<i∧hasN s n=true∧n<na∧x=n:=by
 unfold pL
 simp only [List.mem_map,List.mem_filter,List.mem_range,Bool.and_eq_true,decide_eq_true_eq]
 constructor
 ·rintro⟨n,⟨h1,h2,h3⟩,rfl⟩;exact⟨n,h1,h2,h3,rfl⟩
 ·rintro⟨n,h1,h2,h3,rfl⟩;exact⟨n,⟨h1,h2,h3⟩,rfl⟩
theorem mem_qL{s na i:Nat}{x:Int}:x∈qL s na i↔∃n,n<i∧hasN s n=true∧na≤n∧x=(n:Int)-na:=by
 unfold qL
 simp only [List.mem_map,List.mem_filter,List.mem_range,Bool.and_eq_true,Bool.not_eq_true',decide_eq_false_iff_not]
 constructor
 ·rintro⟨n,⟨h1,h2,h3⟩,rfl⟩;exact⟨n,h1,h2,oM,rfl⟩
 ·rintro⟨n,h1,h2,h3,rfl⟩;exact⟨n,⟨h1,h2,oM⟩,rfl⟩
theorem all_right{d:List Int}{a b:List MA}(h:a.length+b.length≤8):A9c d a b (2 ^ (a.length+b.length)-1):=by
 unfold A9c rightS
 have h1:A3s a (pL (2 ^ (a.length+b.length)-1) a.length (a.length+b.length))=[]:=A8e fun j _ hj=>mem_pL.2 ⟨j,oM,hasN_all h oM,oM,Y⟩
 have h2:A3s b (qL (2 ^ (a.length+b.length)-1) a.length (a.length+b.length))=[]:=A8e fun j _ hj=>mem_qL.2 ⟨a.length+j,oM,hasN_all h oM,oM,oM⟩
 rw [h1,h2,A8n]
 exact List.cons_ne_nil _ _
end Go.Pal.To
end
section
namespace Go.Proofs.YtclejblcnfaeaaaGreat
open Go Go.Pal Go.Pal.To Go.Conc View
open Go.Proofs.Tryz
open Go.Sort (PermIn SortedIn)
set_option maxHeartbeats 4000000
set_option maxRecDepth 20000
def StrAt(u:View)(x:Value)(P:Int)(d:List Int)(a b:List MA):Prop:=∃ap cp aq cq,∃r:Int×List Int×List Int,x = .tuple (List.toArray [.slice ap r.2.1.length cp,.slice aq r.2.2.length cq,intV r.1])∧RowAt u ap (r.2.1.map intV)∧RowAt u aq (r.2.2.map intV)∧B0l P d a b r
structure StS where
 i:Nat
 rs:List Nat
def sp16(a b:List MA)(p q:List Int):Nat→List (Value×A0g)→Value→A0g→Prop
 | 4,_,y,β=>∃a' cap,y = .slice a' (A3s a p).length cap∧OwnS 26 4 β a' (A3s a p).length cap ((A3s a p).map MA.cells).flatten
 | _,_,y,β=>∃a' cap,y = .slice a' (A3s b q).length cap∧OwnS 26 4 β a' (A3s b q).length cap ((A3s b q).map MA.cells).flatten
section
variable{v u:View}{P:Int}{d:List Int}{a b:List MA}{aA aB:Option Addr}{cA cB dd b1 b4 b5 b6 b7 b8 b9 b10 b11 cap:Nat}{c:Array Value}
theorem stTail_x(hl:v.Le u)(hok:LOk P d a b)(hda:ActsAt u aA a)(hdb:ActsAt u aB b)(h9:∃p f,u b9=some (p,.cells (List.toArray [.pointer (some ⟨dd,0,none⟩),.slice aA a.length cA,.slice aB b.length cB]) 134 f))(hdd:∃p f x0 x1,u dd=some (p,.cells (owC x0 x1 d) 160 f))
  (h4:∃p f,u b4=some (p,.cells (List.toArray [.slice aA a.length cA]) 42 f))(h5:∃p f,u b5=some (p,.cells (List.toArray [.slice aB b.length cB]) 42 f))(h11:∃p f,u b11=some (p,.cells (List.toArray [.func (.func 93) #[] #[]]) 140 f))
  (hS:OwnS 142 1 [(b1,c,142)] (some ⟨b1,0,none⟩) (2 ^ (a.length+b.length)) cap ((List.range (2 ^ (a.length+b.length))).map u8V)) :
  XC prog ⟨true,true⟩ none f40.ntmps stTail (FnVM tab f40 (fun x w=>StrAt w x P d a b) v) ⟨[],[(10,.pointer (some ⟨b10,0,none⟩)),(11,.pointer (some ⟨b11,0,none⟩)),(4,.pointer (some ⟨b4,0,none⟩)),(5,.pointer (some ⟨b5,0,none⟩)),(6,.pointer (some ⟨b6,0,none⟩)),(7,.pointer (some ⟨b7,0,none⟩)),(8,.pointer (some ⟨b8,0,none⟩)),(9,.pointer (some ⟨b9,0,none⟩))],
   [(b6,List.toArray [.slice none 0 0],22),(b7,List.toArray [.slice none 0 0],22),(b8,List.toArray [intV 0],34),(b10,List.toArray [intV 0,.slice (some ⟨b1,0,none⟩) (2 ^ (a.length+b.length)) cap],139),(b1,c,142)]⟩ u:=by
 have hn8:a.length+b.length≤8:=by have:=hok.la;have:=hok.lb;omega
 have hN:2 ^ (a.length+b.length)≤256:=Nat.pow_le_pow_right dM hn8
 have hE:layE P d a b=0:=layE_ok.2 hok
 obtain⟨N,hNe⟩:∃N,N=2 ^ (a.length+b.length):=⟨_,rfl⟩
 rw [←hNe]at hS hN⊢
 obtain⟨p4,f4,hv4⟩:=h4
 obtain⟨p5,f5,hv5⟩:=h5
 obtain⟨p9,f9,hv9⟩:=h9
 obtain⟨p11,f11,hv11⟩:=h11
 obtain⟨pd,fd,y0,y1,hvd⟩:=hdd
 have hP:S.zAt ⟨b11,b4,b5,a.length,b.length⟩ u:=⟨hn8,⟨_,_,hv11⟩,⟨_,_,_,_,hv4⟩,⟨_,_,_,_,hv5⟩⟩
 have hD:S.DBz ⟨b11,b4,b5,a.length,b.length⟩ cap (List.range N).toArray c:=by
  refine⟨DB.of_own (l:=List.range N) (fun _=>rfl) (e:=142) (b:=b1) ?_ fun x hx=>?_⟩
  ·rw [List.length_range]
   refine hS.cast ?_
   induction List.range N with
   | nil=>rfl
   | cons x l ih=>simp only [List.map_cons,List.flatten_cons,ih];rfl
  ·have:=List.mem_range.1 hx
   show x<256
   omega
 obtain⟨d0,hd0⟩:∃d0,d0=(List.range N).toArray:=⟨_,rfl⟩
 rw [←hd0]at hD
 have hs0:d0.size=N:=by rw [hd0];simp
 have hcall:∀{F:View},CallsB prog ⟨true,true⟩ 94 #[S.slV b1 N cap,S.cmV ⟨b11,b4,b5,a.length,b.length⟩] (RetB fun r β'=>r = .tuple #[]∧S.SBox ⟨b11,b4,b5,a.length,b.length⟩ cap b1 (fun d'=>d'.size=d0.size∧PermIn 0 d0.size d0 d'∧SortedIn (S.ltE ⟨b11,b4,b5,a.length,b.length⟩) 0 d0.size d') β') [(b1,c,142)] (u.union F):=fun {F}=>by
  have h1:=S.sort_x (mn:=⟨true,true⟩) (b:=b1) (S.zUp (F:=F) hP) hD oM
  rw [hs0]at h1⊢
  exact h1
 refine A2z ?_
 repeat (first|refine st ?_|refine qb fun bx=>?_)
 refine Q_op fun ho=>A0k [(b1,c,142)] [(b6,List.toArray [.slice none 0 0],22),(b7,List.toArray [.slice none 0 0],22),(b8,List.toArray [intV 0],34),(b10,List.toArray [intV 0,.slice (some ⟨b1,0,none⟩) N cap],139)] ho bod94 Y Y Y Y Y cntA (hcall) (fun x β' hR=>?_)
 clear ho hcall
 obtain⟨rfl,d',c',rfl,hD',hsz,hpm,hso⟩:=hR
 obtain⟨hp1,hp2⟩:=sort_lists hpm hso
 have hsz':d'.size=N:=hsz.trans hs0
 rw [hd0,List.toList_toArray]at hp1
 clear hD hpm hso hS hsz
 have hidx:∀t,t<N→∃j,j<N∧d'[j]! = t:=fun t ht=>by
  have hm:t∈d'.toList:=hp1.mem_iff.2 (List.mem_range.2 ht)
  obtain⟨j,hj,e⟩:=List.getElem_of_mem hm
  have hj':j<d'.size:=by simpa using hj
  exact⟨j,oM,by rw [getElem!_pos d' j hj'];simpa using e⟩
 have hsor:∀i j,i<j→j<N→¬A5z (cntN d'[j]!) (pL d'[j]! a.length (a.length+b.length)) (qL d'[j]! a.length (a.length+b.length)) (cntN d'[i]!) (pL d'[i]! a.length (a.length+b.length)) (qL d'[i]! a.length (a.length+b.length)):=fun i j hij hj=>by
  have h1:=List.pairwise_iff_getElem.1 hp2 i j (by simp;omega) (by simp;omega) hij
  rw [getElem!_pos d' i oM,getElem!_pos d' j oM,←cmS_lt]
  simp only [Array.getElem_toList]at h1
  have h2:decide (cmS a.length b.length d'[j] d'[i]<0)=false:=h1
  exact of_decide_eq_false h2
 repeat (first|refine st ?_|refine qb fun bx=>?_)
 refine A1l (α:=StS) (fun z=>⟨z.rs.map coll,[(51,.int .i64 z.i),(50,.int .i64 N),(49,.slice (some ⟨b1,0,none⟩) N cap),(4,.pointer (some ⟨b4,0,none⟩)),(5,.pointer (some ⟨b5,0,none⟩)),(6,.pointer (some ⟨b6,0,none⟩)),(7,.pointer (some ⟨b7,0,none⟩)),(8,.pointer (some ⟨b8,0,none⟩)),(9,.pointer (some ⟨b9,0,none⟩))],
   [(b6,List.toArray [.slice none 0 0],22),(b7,List.toArray [.slice none 0 0],22),(b8,List.toArray [intV 0],34),(b1,c',142)]⟩)
  (fun z w=>u.Le w∧z.i≤N∧z.rs.Nodup∧(∀r∈z.rs,w r=some (true,.deferred (some []))∧u r=none)∧∀j,j<z.i→¬A9c d a b d'[j]!) (fun z=>N-z.i) ⟨0,[]⟩ ⟨Y,rg,cntL⟩ (Le.refl _) ⟨Le.refl _,Nat.zero_le _,List.nodup_nil,(fun r hr=>by cases hr),(fun j hj=>absurd hj (Nat.not_lt_zero _))⟩ ?_
 rintro⟨i,rs⟩ w ⟨hw,hi,hnd,hrs,hno⟩
 simp only at hi hnd hrs hno
 dsimp only
 repeat (first|refine st ?_|refine qb fun bx=>?_)
 refine A1j Y (fun h=>?_) (fun h=>?_)
 ·replace h:=fa h
  have hlt:i<N:=oM
  have hid:i<d'.size:=by rw [hsz'];exact hlt
  have hrd:=hD'.rdE hid
  have hs256:=hD'.ok hid
  obtain⟨s,hs⟩:∃s,s=d'[i]!:=⟨_,rfl⟩
  rw [←hs]at hrd hs256
  have hev:S.eV s=u8V s:=by unfold S.eV;rfl
  rw [hev]at hrd
  repeat (first|refine st ?_|refine qb fun bx=>?_)
  refine A4p tab i Y Y Y Y Y Y Y hlt ?_
  refine Q_loadB tab Y Y Y ib hrd ?_
  repeat (first|refine st ?_|refine qb fun bx=>?_)
  refine A2d tab Y Y Y (hw _ _ hv4) (A0n tab Y Y Y Y) ?_
  repeat (first|refine st ?_|refine qb fun bx=>?_)
  refine A2d tab Y Y Y (hw _ _ hv5) (A0n tab Y Y Y Y) ?_
  repeat (first|refine st ?_|refine qb fun bx=>?_)
  refine Q_op fun ho=>A0k [] _ ho bod96 Y Y Y Y Y A7q (lists_x hs256 hn8) (fun x β' hR=>?_)
  clear ho
  obtain⟨sp,sq,ap,aq,cp,cq,rfl,rfl,hp,hq⟩:=hR
  repeat (first|refine st ?_|refine qb fun bx=>?_)
  rename_i b15
  obtain⟨b16,rfl⟩:∃x:Nat,x=bx:=⟨bx,rfl⟩
  obtain⟨np,hnp⟩:∃x,x=(pL s a.length (a.length+b.length)).length:=⟨_,rfl⟩
  obtain⟨nq,hnq⟩:∃x,x=(qL s a.length (a.length+b.length)).length:=⟨_,rfl⟩
  rw [←hnp]at hp⊢
  rw [←hnq]at hq⊢
  have hpl:=pL_len s a.length (a.length+b.length)
  have hql:=qL_len s a.length (a.length+b.length)
  refine XC_sub (τ:=⟨rs.map coll,[(15,.pointer (some ⟨b15,0,none⟩)),(16,.pointer (some ⟨b16,0,none⟩)),(51,.int .i64 i),(50,.int .i64 N),(49,.slice (some ⟨b1,0,none⟩) N cap),(4,.pointer (some ⟨b4,0,none⟩)),(5,.pointer (some ⟨b5,0,none⟩)),(6,.pointer (some ⟨b6,0,none⟩)),(7,.pointer (some ⟨b7,0,none⟩)),(8,.pointer (some ⟨b8,0,none⟩)),(9,.pointer (some ⟨b9,0,none⟩))],
   stBx b6 b7 b8 b15 b16 (.slice none 0 0) (.slice none 0 0) (intV 0) (.slice ap np cp) (.slice aq nq cq) ((sp++sq)++[(b1,c',142)])⟩) ?_ ⟨rfl,rg,show Subm (stBx b6 b7 b8 b15 b16 (.slice none 0 0) (.slice none 0 0) (intV 0) (.slice ap np cp) (.slice aq nq cq) ((sp++sq)++[(b1,c',142)])) ((b16,List.toArray [.slice aq nq cq],22)::(b15,List.toArray [.slice ap np cp],22)::((sp++sq)++[(b6,List.toArray [.slice none 0 0],22),(b7,List.toArray [.slice none 0 0],22),(b8,List.toArray [intV 0],34),(b1,c',142)]))from cntL⟩ (Le.refl _)
  refine A1f [4,7,9] [0,1,2,3,5,6,4,7,8,9] A1c Y kR ?_
  repeat (first|refine st ?_|refine qb fun bx=>?_)
  refine A7r tab Y Y Y kR Y (hw _ _ hv9) (A0n tab Y Y Y Y) ?_
  repeat (first|refine st ?_|refine qb fun bx=>?_)
  refine A7r tab Y Y Y kR Y (hw _ _ hv4) (A0n tab Y Y Y Y) ?_
  repeat (first|refine st ?_|refine qb fun bx=>?_)
  refine A7r tab Y Y Y kR Y (hw _ _ hv5) (A0n tab Y Y Y Y) ?_
  repeat (first|refine st ?_|refine qb fun bx=>?_)
  refine S_net (Sp:=sp16 a b (pL s a.length (a.length+b.length)) (qL s a.length (a.length+b.length))) (pre:=fun _=>[]) [4,7] (fun i=>i+64) dM dM (fun i hi=>?_) dM (fun i hi=>?_) (by repeat (first|exact trivial|(refine⟨?_,?_⟩;focus exact ib))) kR (fun j hj zc hc u' hu'=>?_) (fun zc hc=>?_)
  ·simp only [List.mem_cons,List.not_mem_nil,or_false]at hi
   rcases hi with rfl|rfl<;>rfl
  ·simp only [List.mem_cons,List.not_mem_nil,or_false]at hi
   rcases hi with rfl|rfl<;>exact⟨fun o ho=>by cases ho;rfl,rfl⟩
  ·simp only [List.mem_cons,List.not_mem_nil,or_false]at hj
   rcases hj with rfl|rfl
   ·refine A_bok fun hbk=>?_
    have hbk:Bok (stBx b6 b7 b8 b15 b16 (.slice none 0 0) (.slice none 0 0) (intV 0) (.slice ap np cp) (.slice aq nq cq) ((sp++sq)++[(b1,c',142)])) u':=hbk
    have hct:=without_x (mn:=⟨true,true⟩) (cA:=cA) (cO:=cp) ((hda.le (hw.trans hu')).le (A0e _ _)) (RowAt.own hbk (show Subm sp (stBx b6 b7 b8 b15 b16 (.slice none 0 0) (.slice none 0 0) (intV 0) (.slice ap np cp) (.slice aq nq cq) ((sp++sq)++[(b1,c',142)]))from cntL) hp) oM oM
    rw [←hnp]at hct
    exact A0k [] _ Y bod98 Y Y Y Y Y A7q hct (fun x β' hR=>⟨Y,_,_,hR,Y⟩)
   ·refine A_bok fun hbk=>?_
    have hbk:Bok (stBx b6 b7 b8 b15 b16 (.slice none 0 0) (.slice none 0 0) (intV 0) (.slice ap np cp) (.slice aq nq cq) ((sp++sq)++[(b1,c',142)])) u':=hbk
    have hct:=without_x (mn:=⟨true,true⟩) (cA:=cB) (cO:=cq) ((hdb.le (hw.trans hu')).le (A0e _ _)) (RowAt.own hbk (show Subm sq (stBx b6 b7 b8 b15 b16 (.slice none 0 0) (.slice none 0 0) (intV 0) (.slice ap np cp) (.slice aq nq cq) ((sp++sq)++[(b1,c',142)]))from cntL) hq) oM oM
    rw [←hnq]at hct
    exact A0k [] _ Y bod98 Y Y Y Y Y A7q hct (fun x β' hR=>⟨Y,_,_,hR,Y⟩)
  ·obtain⟨aX,cX,e4,hSX⟩:sp16 a b (pL s a.length (a.length+b.length)) (qL s a.length (a.length+b.length)) 4 [] (zc 4).1 (zc 4).2:=hc 4 dM
   obtain⟨aY,cY,e7,hSY⟩:sp16 a b (pL s a.length (a.length+b.length)) (qL s a.length (a.length+b.length)) 7 [] (zc 7).1 (zc 7).2:=hc 7 dM
   simp only [netR,netβ,e4,e7]
   generalize (zc 4).2=βX at hSX⊢
   generalize (zc 7).2=βY at hSY⊢
   clear e4 e7 hc
   repeat (first|refine st ?_|refine qb fun bx=>?_)
   refine S_do kR (A0k [] _ Y bod99 Y Y Y Y Y A7q (waysF_x ⟨_,Y⟩) (fun x β' hR=>⟨Le.refl _,?_,?_⟩))
   ·exact kp
   obtain⟨b2,b3,rfl,rfl⟩:=hR
   repeat (first|refine st ?_|refine qb fun bx=>?_)
   obtain⟨β1,hβ1⟩:∃x:A0g,x=[(b3,List.toArray [.slice none 0 0],22),(b2,List.toArray [.pointer (some ⟨dd,0,none⟩),.slice aX (A3s a (pL s a.length (a.length+b.length))).length cX,.slice aY (A3s b (qL s a.length (a.length+b.length))).length cY],134)]++(βX++βY):=⟨_,rfl⟩
   refine XC_retire (β1:=β1) (β2:=stBx b6 b7 b8 b15 b16 (.slice none 0 0) (.slice none 0 0) (intV 0) (.slice ap np cp) (.slice aq nq cq) ((sp++sq)++[(b1,c',142)])) (by rw [hβ1];exact(show ∀p,Pal.cnt p ([(b3,List.toArray [.slice none 0 0],22),(b2,List.toArray [.pointer (some ⟨dd,0,none⟩),.slice aX (A3s a (pL s a.length (a.length+b.length))).length cX,.slice aY (A3s b (qL s a.length (a.length+b.length))).length cY],134)]++(βX++(βY++stBx b6 b7 b8 b15 b16 (.slice none 0 0) (.slice none 0 0) (intV 0) (.slice ap np cp) (.slice aq nq cq) ((sp++sq)++[(b1,c',142)]))))=Pal.cnt p (([(b3,List.toArray [.slice none 0 0],22),(b2,List.toArray [.pointer (some ⟨dd,0,none⟩),.slice aX (A3s a (pL s a.length (a.length+b.length))).length cX,.slice aY (A3s b (qL s a.length (a.length+b.length))).length cY],134)]++(βX++βY))++stBx b6 b7 b8 b15 b16 (.slice none 0 0) (.slice none 0 0) (intV 0) (.slice ap np cp) (.slice aq nq cq) ((sp++sq)++[(b1,c',142)]))from cntA)) (fun hb1=>?_)
   have hv3:=A0z hb1 (b:=b3) (c:=List.toArray [.slice none 0 0]) (t:=22) (by rw [hβ1];exact ib)
   have hv2:=A0z hb1 (b:=b2) (c:=List.toArray [.pointer (some ⟨dd,0,none⟩),.slice aX (A3s a (pL s a.length (a.length+b.length))).length cX,.slice aY (A3s b (qL s a.length (a.length+b.length))).length cY]) (t:=134) (by rw [hβ1];exact ib)
   have hrX:ActsAt _ aX _:=RowAt.own hb1 (by rw [hβ1];exact cntL) hSX
   have hrY:ActsAt _ aY _:=RowAt.own hb1 (by rw [hβ1];exact cntL) hSY
   have hw2:=A0e w (A0c β1)
   generalize w.union (A0c β1)=u2 at *
   clear hb1 hβ1 hSX hSY
   refine XC_rangeRet (first:=#[]) (captured:=List.toArray [.pointer (some ⟨b2,0,none⟩),.pointer (some ⟨b3,0,none⟩)]) Y bod131 (fun ac fn r l hfit hB hr hlo hrl Stop cf fs hcm hcont=>?_)
   obtain⟨hr1,hr2⟩:=union_none hr
   obtain⟨hl1,hl2⟩:=union_none hlo
   have hB1:=(B3r (p:=true) (o:=.deferred (some [])) hB hr2).1
   have hB2:=(B3r (p:=true) (o:=.loop (A3y fn ac.tmps r)) hB1 hl2).1
   rw [A3l,A3l]
   obtain⟨V0,hV0⟩:∃V0,V0=(u2.set r true (.deferred (some []))).set l true (.loop (A3y fn ac.tmps r)):=⟨_,rfl⟩
   have hVl:V0 l=some (true,.loop (A3y fn ac.tmps r)):=by rw [hV0];unfold View.set;rw [if_pos rfl]
   have hVr:V0 r=some (true,.deferred (some [])):=by rw [hV0];unfold View.set;rw [if_neg hrl,if_pos rfl]
   have h2V:u2.Le V0:=fun b' x hx=>by
    rw [hV0]
    refine A3f (A3f hx (fun e=>?_)) (fun e=>?_)
    ·subst e;rw [hr1]at hx;cases hx
    ·subst e;rw [hl1]at hx;cases hx
   rw [←hV0]at hB2
   show Run prog ⟨true,true⟩ Stop (((u2.set r true (.deferred (some []))).set l true (.loop (A3y fn ac.tmps r))).union (A0c (stBx b6 b7 b8 b15 b16 (.slice none 0 0) (.slice none 0 0) (intV 0) (.slice ap np cp) (.slice aq nq cq) ((sp++sq)++[(b1,c',142)])))) _
   rw [←hV0]
   have huV:=(hw.trans hw2).trans h2V
   obtain⟨Wl,hWl⟩:∃Wl,Wl=A3x [] (A3s a (pL s a.length (a.length+b.length))) (A3s b (qL s a.length (a.length+b.length))) ⟨[],[],d⟩:=⟨_,rfl⟩
   haveI hAbs:∀s,Abs prog ⟨true,true⟩ (stR Stop Wl.length (stBx b6 b7 b8 b15 b16 (.slice none 0 0) (.slice none 0 0) (intV 0) (.slice ap np cp) (.slice aq nq cq) ((sp++sq)++[(b1,c',142)])) (stBx b6 b7 b8 b15 b16 (.slice ap np cp) (.slice aq nq cq) (intV 0) (.slice ap np cp) (.slice aq nq cq) ((sp++sq)++[(b1,c',142)])) s):=fun s=>stR_abs s
   have hmd:=hok.m.len
   have hx:=ways1_x (R:=stR Stop Wl.length (stBx b6 b7 b8 b15 b16 (.slice none 0 0) (.slice none 0 0) (intV 0) (.slice ap np cp) (.slice aq nq cq) ((sp++sq)++[(b1,c',142)])) (stBx b6 b7 b8 b15 b16 (.slice ap np cp) (.slice aq nq cq) (intV 0) (.slice ap np cp) (.slice aq nq cq) ((sp++sq)++[(b1,c',142)]))) (V0:=V0) (l:=l) (lp:=A3y fn ac.tmps r) (t:=false) (bd:=b2) (bm:=b3) (dd:=dd) (a:=A3s a (pL s a.length (a.length+b.length))) (b:=A3s b (qL s a.length (a.length+b.length))) (g:=[]) (os:=d) (H:=d.length) (s:=[]) (u:=V0) (cf:=cf) (fs:=fs)
    ⟨_,_,aX,cX,aY,cY,h2V _ _ hv2,hrX.le h2V,hrY.le h2V⟩ ⟨_,_,_,_,huV _ _ hvd⟩ ⟨_,_,none,0,h2V _ _ hv3,.inl Y⟩ hVl Y
    (stTakes_x hVl ⟨hfit.size,Y,fun t x hx=>hfit.get t x (Mu.rin_get (by exact⟨Y,Y,Y,Y,Y,trivial⟩) t x hx)⟩ hB.nodup)
    (by have:=A6e (l:=a) (i:=0) (out:=pL s a.length (a.length+b.length));have:=A6e (l:=b) (i:=0) (out:=qL s a.length (a.length+b.length));unfold A3s;omega)
    (fun x hx=>fit_ok hok.a x (A6d hx)) (fun x hx=>fit_ok hok.b x (A6d hx)) hmd.2 Y (Le.refl _) hcm ?_
   ·rw [List.append_nil,←hWl]at hx
    have:=hx (Nat.le_refl _)
    rw [if_pos rfl]at this
    exact this hB2.disj
   ·rw [←hWl]
    rw [waysG_none]at hWl
    have hB3:∀{o:Obj},Bok (stBx b6 b7 b8 b15 b16 (.slice none 0 0) (.slice none 0 0) (intV 0) (.slice ap np cp) (.slice aq nq cq) ((sp++sq)++[(b1,c',142)])) (V0.set l true o):=fun {o}=>B2i hB2 hVl
    have hset:∀{o:Obj} {b':Nat} {x:Bool×Obj},u2 b'=some x→(V0.set l true o) b'=some x:=fun {o b' x} hx=>A3f (h2V _ _ hx) (fun e=>by subst e;rw [hl1]at hx;cases hx)
    have hur:u r=none:=by
     cases e:u r with
     | none=>rfl
     | some x=>rw [(hw.trans hw2) _ _ e]at hr1;cases hr1
    have hrn:r∉rs:=fun h=>by
     have:=hw2 _ _ (hrs r h).1
     rw [hr1]at this;cases this
    have hmarks:∀{o:Obj},∀r'∈r::rs,(V0.set l true o) r'=some (true,.deferred (some []))∧u r'=none:=fun {o} r' hr'=>by
     rcases List.mem_cons.1 hr' with rfl|hr'
     ·exact⟨A3f hVr hrl,hur⟩
     ·exact⟨hset (hw2 _ _ (hrs r' hr').1),(hrs r' hr').2⟩
    have huS:∀{o:Obj},u.Le (V0.set l true o):=fun {o} b' x hx=>hset ((hw.trans hw2) _ _ hx)
    cases hWc:Wl with
    | nil=>
     rw [(end_nil false []).1,(end_nil false []).2]
     intro _ hdj
     rw [if_pos rfl]
     refine hcont _ _ (A3y fn ac.tmps r) (A3h hVl) sM ⟨stBx b6 b7 b8 b15 b16 (.slice none 0 0) (.slice none 0 0) (intV 0) (.slice ap np cp) (.slice aq nq cq) ((sp++sq)++[(b1,c',142)]),V0.set l true (.loop {A3y fn ac.tmps r with state:=.exhausted }),hB3,?_,.inl ⟨rfl,?_⟩⟩
     ·rw [A3l];exact Le.refl _
     ·repeat (first|refine st ?_|refine qb fun bx=>?_)
      refine A0a ⟨⟨i+1,r::rs⟩,V0.set l true (.loop {A3y fn ac.tmps r with state:=.exhausted }),by simp only;omega,⟨Y,rg,?_⟩,Le.refl _,huS,hlt,List.nodup_cons.2 ⟨hrn,hnd⟩,hmarks,fun j hj=>?_⟩
      ·exact(show Subm [(b6,List.toArray [.slice none 0 0],22),(b7,List.toArray [.slice none 0 0],22),(b8,List.toArray [intV 0],34),(b1,c',142)] (stBx b6 b7 b8 b15 b16 (.slice none 0 0) (.slice none 0 0) (intV 0) (.slice ap np cp) (.slice aq nq cq) ((sp++sq)++[(b1,c',142)]))from cntL)
      ·rcases Nat.lt_succ_iff_lt_or_eq.1 hj with hj|rfl
       ·exact hno j hj
       ·unfold A9c rightS
        rw [←hs]
        exact fun h=>h (hWl ▸ hWc)
    | cons w0 ws=>
     show stR Stop _ _ _ (ws++[]) (aft l (A3y fn ac.tmps r) false V0) _
     rw [List.append_nil]
     intro _ hdj
     rw [if_neg sM]
     refine hcont _ _ (lpD (A3y fn ac.tmps r)) (A3h (by unfold aft View.set;simp)) (by simp [lpD]) ⟨stBx b6 b7 b8 b15 b16 (.slice ap np cp) (.slice aq nq cq) (intV 0) (.slice ap np cp) (.slice aq nq cq) ((sp++sq)++[(b1,c',142)]),V0.set l true (.loop {lpD (A3y fn ac.tmps r)with state:=.exhausted }),B0i hB3 rfl,?_,.inr ⟨rfl,?_⟩⟩
     ·rw [A3l]
      show(View.union _ _).Le (((V0.set l true _).set l true _).union _)
      rw [set_set]
      exact Le.refl _
     ·repeat (first|refine st ?_|refine qb fun bx=>?_)
      refine FnVM_ret tab (r::rs) Y (List.nodup_cons.2 ⟨hrn,hnd⟩) (fun r' hr'=>⟨(hmarks r' hr').1,?_⟩) (hl.trans huS) (by exact .cell rfl ib rfl (.cell rfl ib rfl (.cell rfl ib rfl .nil))) fun u0 hbk hl0=>?_
      ·cases e:v r' with
       | none=>rfl
       | some x=>have:=hl _ _ e;rw [(hmarks (o:=.loop (A3y fn ac.tmps r)) r' hr').2]at this;cases this
      ·have hbk:Bok (stBx b6 b7 b8 b15 b16 (.slice ap np cp) (.slice aq nq cq) (intV 0) (.slice ap np cp) (.slice aq nq cq) ((sp++sq)++[(b1,c',142)])) u0:=hbk
       refine⟨ap,cp,aq,cq,(0,pL s a.length (a.length+b.length),qL s a.length (a.length+b.length)),by rw [hnp,hnq];rfl,RowAt.own hbk (show Subm sp (stBx b6 b7 b8 b15 b16 (.slice ap np cp) (.slice aq nq cq) (intV 0) (.slice ap np cp) (.slice aq nq cq) ((sp++sq)++[(b1,c',142)]))from cntL) hp,RowAt.own hbk (show Subm sq (stBx b6 b7 b8 b15 b16 (.slice ap np cp) (.slice aq nq cq) (intV 0) (.slice ap np cp) (.slice aq nq cq) ((sp++sq)++[(b1,c',142)]))from cntL) hq,?_⟩
       unfold B0l
       rw [if_neg (by simpa using hE)]
       refine⟨s,?_,Y,?_,fun t ht hrt=>?_⟩
       ·have hm:s∈d'.toList:=by rw [hs,getElem!_pos d' i hid];simp
        have:=List.mem_range.1 (hp1.mem_iff.1 hm)
        omega
       ·unfold A9c rightS
        rw [←hWl,hWc]
        exact List.cons_ne_nil _ _
       ·obtain⟨j,hj,rfl⟩:=hidx t oM
        rcases Nat.lt_trichotomy j i with h|rfl|h
        ·exact absurd hrt (hno j h)
        ·rw [←hs];exact B1u
        ·rw [hs];exact hsor i j h hj
 ·exfalso
  replace h:=fa h
  have hN0:0<N:=by rw [hNe];exact Nat.two_pow_pos _
  have hall:=all_right (d:=d) hn8
  rw [←hNe]at hall
  obtain⟨j,hj,e⟩:=hidx (N-1) oM
  rw [←e]at hall
  exact hno j oM hall
end
end Go.Proofs.YtclejblcnfaeaaaGreat
end
section
namespace Go.Proofs.YtclejblcnfaeaaaGreat
open Go Go.Pal Go.Pal.To Go.Conc View
open Go.Proofs.Tryz
set_option maxHeartbeats 4000000
set_option maxRecDepth 20000
structure St1S where
 i:Nat
 sg:A0g
 a:Option Addr
 cap:Nat
section
variable{v:View}{P:Int}{aD aA aB:Option Addr}{cD cA cB:Nat}{d:List Int}{a b:List MA}
theorem wrapS{i:Nat}(h:i<256):IntKind.u8.wrap ((i:Nat):Int)=i:=W.wrap8 h
theorem shl_pow{n:Nat}(h:n≤8):IntKind.i64.wrap (1*2 ^ min ((n:Int)).toNat IntKind.i64.bits)=((2 ^ n:Nat):Int):=by
 have h1:2 ^ n≤2^8:=Nat.pow_le_pow_right dM h
 rw [show min ((n:Int)).toNat IntKind.i64.bits=n by simp [IntKind.bits];omega,show(1:Int)*2 ^ n=((2 ^ n:Nat):Int) by push_cast;omega]
 generalize 2 ^ n=k at *
 exact A2i oM oM
theorem struck_x(hd:RowAt v aD (d.map intV))(hdl:d.length<2^30)(ha:ActsAt v aA a)(hb:ActsAt v aB b)(hal:a.length<2^30)(hbl:b.length<2^30) :
  CallV prog ⟨true,true⟩ 40 [moV P aD d.length cD,.slice aA a.length cA,.slice aB b.length cB] (fun x u=>StrAt u x P d a b) v:=by
 refine callV_fnVM tab func40 Y nB (args:=[_,_,_]) ?_
 repeat (first|refine st ?_|refine qb fun bx=>?_)
 rename_i b3 b4 b5 b6 b7
 obtain⟨b8,rfl⟩:∃x:Nat,x=bx:=⟨bx,rfl⟩
 refine Q_op fun ho=>A1o ho bod92 Y Y Y Y Y (lay_x hd hdl ha hb hal hbl) (fun x u hl hR=>?_)
 clear ho
 unfold LayAt at hR
 by_cases h:layE P d a b=0
 ·rw [if_neg (by simpa using h)]at hR
  obtain⟨dd,p,f,x0,x1,rfl,hdd⟩:=hR
  have hok:=layE_ok.1 h
  have hn8:a.length+b.length≤8:=by have:=hok.la;have:=hok.lb;omega
  repeat (first|refine st ?_|refine qb fun bx=>?_)
  rename_i b9 b10
  obtain⟨b11,rfl⟩:∃x:Nat,x=bx:=⟨bx,rfl⟩
  rw [show((a.length:Int)+(b.length:Int))=((a.length+b.length:Nat):Int)from Y,shl_pow hn8]
  have hN:2 ^ (a.length+b.length)≤256:=Nat.pow_le_pow_right dM hn8
  have hN0:0<2 ^ (a.length+b.length):=Nat.two_pow_pos _
  obtain⟨β1,hβ1⟩:∃x:A0g,x=[(b11,List.toArray [.func (.func 93) #[] #[]],140),(b9,List.toArray [.pointer (some ⟨dd,0,none⟩),.slice aA a.length cA,.slice aB b.length cB],134),(b5,List.toArray [.slice aB b.length cB],42),(b4,List.toArray [.slice aA a.length cA],42)]:=⟨_,rfl⟩
  refine XC_retire (β1:=β1) (β2:=[(b10,List.toArray [intV 0,.slice none 0 0],139),(b8,List.toArray [intV 0],34),(b7,List.toArray [.slice none 0 0],22),(b6,List.toArray [.slice none 0 0],22),(b3,(moV P aD d.length cD).cells,24)]) (by
   rw [hβ1]
   exact(show ∀p,Pal.cnt p [(b11,List.toArray [.func (.func 93) #[] #[]],140),(b10,List.toArray [intV 0,.slice none 0 0],139),(b9,List.toArray [.pointer (some ⟨dd,0,none⟩),.slice aA a.length cA,.slice aB b.length cB],134),(b8,List.toArray [intV 0],34),(b7,List.toArray [.slice none 0 0],22),(b6,List.toArray [.slice none 0 0],22),(b5,List.toArray [.slice aB b.length cB],42),(b4,List.toArray [.slice aA a.length cA],42),(b3,(moV P aD d.length cD).cells,24)]=Pal.cnt p ([(b11,List.toArray [.func (.func 93) #[] #[]],140),(b9,List.toArray [.pointer (some ⟨dd,0,none⟩),.slice aA a.length cA,.slice aB b.length cB],134),(b5,List.toArray [.slice aB b.length cB],42),(b4,List.toArray [.slice aA a.length cA],42)]++[(b10,List.toArray [intV 0,.slice none 0 0],139),(b8,List.toArray [intV 0],34),(b7,List.toArray [.slice none 0 0],22),(b6,List.toArray [.slice none 0 0],22),(b3,(moV P aD d.length cD).cells,24)])from cntA)) (fun hb1=>?_)
  have hv11:=A0z hb1 (b:=b11) (c:=List.toArray [.func (.func 93) #[] #[]]) (t:=140) (by rw [hβ1];exact ib)
  have hv9:=A0z hb1 (b:=b9) (c:=List.toArray [.pointer (some ⟨dd,0,none⟩),.slice aA a.length cA,.slice aB b.length cB]) (t:=134) (by rw [hβ1];exact ib)
  have hv5:=A0z hb1 (b:=b5) (c:=List.toArray [.slice aB b.length cB]) (t:=42) (by rw [hβ1];exact ib)
  have hv4:=A0z hb1 (b:=b4) (c:=List.toArray [.slice aA a.length cA]) (t:=42) (by rw [hβ1];exact ib)
  have hu2:=A0e u (A0c β1)
  generalize u.union (A0c β1)=u2 at *
  clear hb1 hβ1
  refine A1l (α:=St1S) (fun z=>⟨[],[(33,.int .i64 z.i),(32,.int .i64 (2 ^ (a.length+b.length):Nat)),(10,.pointer (some ⟨b10,0,none⟩)),(11,.pointer (some ⟨b11,0,none⟩)),(4,.pointer (some ⟨b4,0,none⟩)),(5,.pointer (some ⟨b5,0,none⟩)),(6,.pointer (some ⟨b6,0,none⟩)),(7,.pointer (some ⟨b7,0,none⟩)),(8,.pointer (some ⟨b8,0,none⟩)),(9,.pointer (some ⟨b9,0,none⟩))],
    (b10,List.toArray [intV 0,.slice z.a z.i z.cap],139)::(z.sg++[(b8,List.toArray [intV 0],34),(b7,List.toArray [.slice none 0 0],22),(b6,List.toArray [.slice none 0 0],22)])⟩)
   (fun z w=>w=u2∧z.i≤2 ^ (a.length+b.length)∧OwnS 142 1 z.sg z.a z.i z.cap ((List.range z.i).map u8V)) (fun z=>2 ^ (a.length+b.length)-z.i) ⟨0,[],none,0⟩ ⟨Y,rg,cntL⟩ (Le.refl _) ⟨Y,Nat.zero_le _,.nil⟩ ?_
  rintro⟨i,sg,a',cap⟩ w ⟨rfl,hi,hS⟩
  simp only at hi hS
  dsimp only
  repeat (first|refine st ?_|refine qb fun bx=>?_)
  refine A1j Y (fun h=>?_) (fun h=>?_)
  ·have hlt:i<2 ^ (a.length+b.length):=by
    have:=of_decide_eq_true h
    omega
   clear h
   repeat (first|refine st ?_|refine qb fun bx=>?_)
   rw [wrapS oM]
   refine Q_op fun ho=>A4b tab ho Y Y Y Y Y Y Y Y Y (fun bl cl hL=>?_)
   clear ho
   refine Q_op fun ho=>A3u tab (xs:=[u8V i]) sg [(bl,cl,142)] [(b10,List.toArray [intV 0,.slice a' i cap],139),(b8,List.toArray [intV 0],34),(b7,List.toArray [.slice none 0 0],22),(b6,List.toArray [.slice none 0 0],22)] ho Y Y Y Y Y Y Y Y Y Y
    (show ∀p,Pal.cnt p ((bl,cl,142)::(b10,List.toArray [intV 0,.slice a' i cap],139)::(sg++[(b8,List.toArray [intV 0],34),(b7,List.toArray [.slice none 0 0],22),(b6,List.toArray [.slice none 0 0],22)]))=Pal.cnt p (sg++([(bl,cl,142)]++[(b10,List.toArray [intV 0,.slice a' i cap],139),(b8,List.toArray [intV 0],34),(b7,List.toArray [.slice none 0 0],22),(b6,List.toArray [.slice none 0 0],22)]))from cntA) hS
    (fun hb=>RowAt.own hb cntL hL) Y Y (by show(2*(i+1)+768)*1≤2^48;omega) oM (fun sg' a'' cap' hS'=>?_)
   clear ho
   repeat (first|refine st ?_|refine qb fun bx=>?_)
   refine A0a ⟨⟨i+1,sg',a'',cap'⟩,w,by simp only;omega,⟨Y,rg,show Subm ((b10,List.toArray [intV 0,.slice a'' (i+1) cap'],139)::(sg'++[(b8,List.toArray [intV 0],34),(b7,List.toArray [.slice none 0 0],22),(b6,List.toArray [.slice none 0 0],22)])) (sg'++[(b10,List.toArray [intV 0,.slice a'' (i+1) cap'],139),(b8,List.toArray [intV 0],34),(b7,List.toArray [.slice none 0 0],22),(b6,List.toArray [.slice none 0 0],22)])from cntL⟩,Le.refl _,Y,hlt,?_⟩
   rw [List.range_succ,List.map_append]
   exact hS'
  ·have hin:i=2 ^ (a.length+b.length):=by
    have:=of_decide_eq_false h
    omega
   clear h
   subst hin
   refine B4c ?_
   refine B0m ?_
   refine A8j ?_
   refine A7f Y ?_
   refine A4s ?_
   rcases hS.two with ⟨_,_,h0,_,_⟩|⟨b1,c1,rfl,rfl,hS1⟩
   ·omega
   ·have hlw:=hl.trans hu2
    refine XC_sub (stTail_x (cap:=cap) (b1:=b1) (b10:=b10) hlw hok (ha.le hlw) (hb.le hlw) ⟨_,_,hv9⟩ ⟨_,_,_,_,hu2 _ _ hdd⟩ ⟨_,_,hv4⟩ ⟨_,_,hv5⟩ ⟨_,_,hv11⟩ hS1) ⟨Y,rg,?_⟩ (Le.refl _)
    exact(show Subm [(b6,List.toArray [.slice none 0 0],22),(b7,List.toArray [.slice none 0 0],22),(b8,List.toArray [intV 0],34),(b10,List.toArray [intV 0,.slice (some ⟨b1,0,none⟩) (2 ^ (a.length+b.length)) cap],139),(b1,c1,142)] ((b10,List.toArray [intV 0,.slice (some ⟨b1,0,none⟩) (2 ^ (a.length+b.length)) cap],139)::([(b1,c1,142)]++[(b8,List.toArray [intV 0],34),(b7,List.toArray [.slice none 0 0],22),(b6,List.toArray [.slice none 0 0],22)]))from cntL)
 ·rw [if_pos h]at hR
  subst hR
  repeat (first|refine st ?_|refine qb fun bx=>?_)
  rw [show(layE P d a b != 0)=true from by simpa using h]
  repeat (first|refine st ?_|refine qb fun bx=>?_)
  refine A1f [1,2,3] [0,1,2,3] A1c Y kR ?_
  repeat (first|refine st ?_|refine qb fun bx=>?_)
  refine FnVM_ret tab [] Y List.nodup_nil (fun r hr=>by cases hr) hl (by exact .cell rfl ib rfl (.cell rfl ib rfl (.cell rfl ib rfl .nil))) fun u0 hbk hl0=>?_
  refine⟨none,0,none,0,(layE P d a b,[],[]),Y,.inl Y,.inl Y,?_⟩
  unfold B0l
  rw [if_pos h]
end
end Go.Proofs.YtclejblcnfaeaaaGreat
end
section
namespace Go.Pal.To
open Go
def A6y:List Int→List MA→List ByteArray
 | _,[]=>[]
 | os,x::l=>A8b os x::A6y (doN os x) l
theorem B3a:∀(l:List MA) (os:List Int) (x:MA),A6y os (l++[x])=A6y os l++[A8b (A1s os l) x]
 | [],_,_=>rfl
 | y::l,os,x=>by
  show A8b os y::A6y (doN os y) (l++[x])=_
  rw [B3a l];rfl
theorem A8s:∀(l:List MA) (os:List Int),(A6y os l).length=l.length
 | [],_=>rfl
 | x::l,os=>by simp [A6y,A8s l]
theorem duskOf_snoc(l:List MA)(os:List Int)(x:MA):A1s os (l++[x])=doN (A1s os l) x:=by simp [A1s,List.foldl_append]
def holdE(P:Int)(d:List Int)(l:List MA):Int:=chkBooks P d 8 [l]
structure HOk(P:Int)(d:List Int)(l:List MA):Prop where
 m:MOk P d
 len:l.length≤8
 all:∀x∈l,Ok P d.length x
theorem holdE_ok{P:Int}{d:List Int}{l:List MA}:holdE P d l=0↔HOk P d l:=by
 unfold holdE
 rw [B3p]
 constructor
 ·rintro⟨h1,h2⟩
  have ha:=h2 l sM
  exact⟨h1,ha.1,ha.2⟩
 ·rintro⟨h1,h2,h3⟩
  refine⟨h1,fun x hx=>?_⟩
  simp only [List.mem_cons,List.not_mem_nil,or_false]at hx
  subst hx
  exact⟨h2,h3⟩
def holdR(P:Int)(d:List Int)(l:List MA):Int×List ByteArray×List Int:=if holdE P d l≠0 then(holdE P d l,[],[])else(0,A6y d l,A1s d l)
end Go.Pal.To
end
