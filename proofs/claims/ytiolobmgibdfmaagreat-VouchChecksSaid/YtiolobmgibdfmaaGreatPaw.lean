/- Part 23. -/
import Derived.Test.YtiolobmgibdfmaaGreatPav
set_option linter.all false
section
namespace Go.Proofs.YtiolobmgibdfmaaGreat
open Go Go.Pal Go.Pal.Vo Go.Conc View
open Go.Proofs.Tryz
open Go.Sort (swp PermIn SortedIn Below SWO)
set_option maxHeartbeats 4000000
section
variable{mn:Who}{v:View}{P cap:Nat}
theorem swoW(P:Nat):SWO (ltW P):=⟨B1j P,B3f P,ltW_ntrans P⟩
structure PQ where
 x:Nat
 y:Nat
 lim:Nat
 wb:Bool
 wp:Bool
 d:Array Wl
 c:Array Value
def PdqS(mn:Who)(P cap N:Nat):Prop:=∀{v:View} {d:Array Wl} {c:Array Value} {b x y lim:Nat} {F:Int} {wa:Option Addr} {wn wc:Nat},y-x<N→DB P cap d c→d.size<256→x≤y→y≤d.size→lim<2^30→Below (ltW P) x y d→
 CallsB prog mn 171 #[slV b d.size cap,natV x,natV y,natV lim,cmV P F wa wn wc] (RetB fun r β'=>r = .tuple #[]∧SBox P cap b (fun d'=>d'.size=d.size∧PermIn x y d d'∧SortedIn (ltW P) x y d') β') [(b,c,102)] v
theorem pdq_step(hP:P<8){N:Nat}(IH:PdqS mn P cap N):PdqS mn P cap (N+1):=by
 intro v d c b x y lim F wa wn wc hN hD h256 hxy hy hlim hB
 have hle:=hD.le
 refine A0f tab func171 Z nB (args:=[_,_,_,_,_]) ?_
 repeat refine sr ?_
 refine A1o (α:=PQ) (fun z=>⟨[],[(0,slV b d.size cap),(1,natV z.x),(2,natV z.y),(4,cmV P F wa wn wc),(3,natV z.lim),(10,.bool z.wb),(11,.bool z.wp)],[(b,z.c,102)]⟩)
  (fun z w=>w=v∧DB P cap z.d z.c∧z.d.size=d.size∧x≤z.x∧z.x≤z.y∧z.y≤y∧z.lim<2^30∧Below (ltW P) z.x z.y z.d∧∀R,PermIn z.x z.y z.d R→SortedIn (ltW P) z.x z.y R→PermIn x y d R∧SortedIn (ltW P) x y R) (fun z=>z.y-z.x) ⟨x,y,lim,true,true,d,c⟩
  ⟨Z,rg,cntL⟩ (Le.refl _) ⟨Z,hD,Z,Nat.le_refl _,hxy,Nat.le_refl _,hlim,hB,fun R h1 h2=>⟨h1,h2⟩⟩ ?_
 rintro⟨x1,y1,lim1,wb,wp,d1,c1⟩ v ⟨rfl,hD1,hs1,hx1,hxy1,hy1,hl1,hB1,hR1⟩
 simp only at hD1 hs1 hx1 hxy1 hy1 hl1 hB1 hR1
 dsimp only
 obtain⟨l,hl⟩:∃l,l=y1-x1:=⟨_,rfl⟩
 repeat refine sr ?_
 refine A5o ?_
 repeat refine sr ?_
 rw [show((y1:Int)-(x1:Int))=(l:Int) by omega]
 by_cases h12:l≤12
 ·rw [show decide ((l:Int)≤12)=true from decide_eq_true oM]
  repeat refine sr ?_
  refine Q_op fun ho=>A0i [(b,c1,102)] [] ho bod185 Z Z Z Z Z cntA (by rw [←hs1];exact insertion_x hP hD1 oM oM oM) (fun x β' hR=>?_)
  clear ho
  obtain⟨rfl,d2,c2,rfl,hD2,hs2,hp2⟩:=hR
  rw [List.append_nil]
  repeat refine sr ?_
  refine A0l tab [(b,c2,102)] .nil (Back.here cntL) ?_
  have hh:=Go.Sort.insertionSort_holds (swoW P) d1 x1 y1 hxy1 oM
  rw [←hp2]at hh
  exact⟨Z,d2,c2,Z,hD2,oM,hR1 d2 hh.1 hh.2⟩
 rw [show decide ((l:Int)≤12)=false from decide_eq_false oM]
 repeat refine sr ?_
 refine A5o ?_
 repeat refine sr ?_
 by_cases h0:lim1=0
 ·rw [show((lim1:Int)==0)=true from by simp;omega]
  repeat refine sr ?_
  refine Q_op fun ho=>A0i [(b,c1,102)] [] ho bod186 Z Z Z Z Z cntA (by rw [←hs1];exact heap_x hP hD1 oM oM oM) (fun x β' hR=>?_)
  clear ho
  obtain⟨rfl,d2,c2,rfl,hD2,hs2,hp2⟩:=hR
  rw [List.append_nil]
  repeat refine sr ?_
  refine A0l tab [(b,c2,102)] .nil (Back.here cntL) ?_
  have hh:=Go.Sort.heapSort_holds (swoW P) d1 x1 y1 hxy1 oM
  rw [←hp2]at hh
  exact⟨Z,d2,c2,Z,hD2,oM,hR1 d2 hh.1 hh.2⟩
 rw [show((lim1:Int)==0)=false from by simp;omega]
 repeat refine sr ?_
 -- breakPatterns
 refine A6f (fun τ w=>w=v∧∃(lim2:Nat) (d2:Array Wl) (c2:Array Value),τ=⟨[],[(0,slV b d.size cap),(1,natV x1),(2,natV y1),(4,cmV P F wa wn wc),(3,natV lim2),(10,.bool wb),(11,.bool wp),(12,natV l)],[(b,c2,102)]⟩∧DB P cap d2 c2∧d2.size=d.size∧lim2<2^30∧PermIn x1 y1 d1 d2) ?hc1 ?hs1
 case hs1=>
  refine A5o ?_
  repeat refine sr ?_
  cases wb with
  | true=>
   repeat refine sr ?_
   exact A0c ⟨_,v,⟨Z,lim1,d1,c1,Z,hD1,hs1,hl1,Go.Sort.permIn_refl _ _ _⟩,⟨Z,rg,cntL⟩,Le.refl _⟩
  | false=>
   repeat refine sr ?_
   refine Q_op fun ho=>A0i [(b,c1,102)] [] ho bod187 Z Z Z Z Z cntA (by rw [←hs1];exact break_x hD1 oM oM oM oM) (fun x β' hR=>?_)
   clear ho
   obtain⟨rfl,d2,c2,rfl,hD2,hs2,hp2⟩:=hR
   rw [List.append_nil]
   repeat refine sr ?_
   refine A0c ⟨_,v,⟨Z,lim1-1,d2,c2,Z,hD2,oM,oM,hp2⟩,⟨Z,?_,cntL⟩,Le.refl _⟩
   refine⟨Z,Z,Z,Z,?_,rg⟩
   show some (Value.int .i64 ((lim1:Int)-1))=some (Value.int .i64 ((lim1-1:Nat):Int))
   congr 2;omega
 rintro _ v ⟨rfl,lim2,d2,c2,rfl,hD2,hs2,hl2,hp2⟩
 have hB2:=Go.Sort.Below.permA Go.Sort.permIn_all oM hB1 hp2
 repeat refine sr ?_
 refine Q_op fun ho=>A0i [(b,c2,102)] [] ho bod188 Z Z Z Z Z cntA (by rw [←hs2];exact pivot_x hP hD2 oM oM oM) (fun x β' hR=>?_)
 clear ho
 obtain⟨⟨k,h,hk,hh,rfl⟩,rfl⟩:=hR
 rw [List.append_nil]
 repeat refine sr ?_
 -- the hint
 refine A6f (fun τ w=>w=v∧∃(k h:Nat) (d3:Array Wl) (c3:Array Value),τ=⟨[],[(0,slV b d.size cap),(1,natV x1),(2,natV y1),(4,cmV P F wa wn wc),(3,natV lim2),(10,.bool wb),(11,.bool wp),(12,natV l),(13,natV k),(14,natV h)],[(b,c3,102)]⟩∧DB P cap d3 c3∧d3.size=d.size∧(x1≤k∧k<y1)∧PermIn x1 y1 d2 d3) ?hc2 ?hs2
 case hs2=>
  refine A5o ?_
  repeat refine sr ?_
  by_cases h2:h=2
  ·subst h2
   rw [show(((2:Nat):Int)==2)=true from rfl]
   repeat refine sr ?_
   refine Q_op fun ho=>A0i [(b,c2,102)] [] ho bod189 Z Z Z Z Z cntA (by rw [←hs2];exact reverse_x hD2 oM oM oM) (fun x β' hR=>?_)
   clear ho
   obtain⟨rfl,d3,c3,rfl,hD3,hp3⟩:=hR
   rw [List.append_nil]
   repeat refine sr ?_
   refine A0c ⟨_,v,⟨Z,y1-1-(k-x1),1,d3,c3,Z,hD3,by rw [hp3.1];exact hs2,oM,hp3⟩,⟨Z,?_,cntL⟩,Le.refl _⟩
   refine⟨Z,Z,Z,Z,Z,Z,Z,Z,?_,rg⟩
   show some (Value.int .i64 ((y1:Int)-1-((k:Int)-(x1:Int))))=some (Value.int .i64 ((y1-1-(k-x1):Nat):Int))
   congr 2;omega
  ·rw [show((h:Int)==2)=false from by simp;omega]
   repeat refine sr ?_
   exact A0c ⟨_,v,⟨Z,k,h,d2,c2,Z,hD2,hs2,hk,Go.Sort.permIn_refl _ _ _⟩,⟨Z,rg,cntL⟩,Le.refl _⟩
 clear hk hh h k
 rintro _ v ⟨rfl,k,h,d3,c3,rfl,hD3,hs3,hk,hp3⟩
 have hB3:=Go.Sort.Below.permA Go.Sort.permIn_all oM hB2 hp3
 have hp13:=Go.Sort.permIn_trans _ _ _ _ _ hp2 hp3
 -- partialInsertionSort
 refine A6f (fun τ w=>w=v∧∃(d4:Array Wl) (c4:Array Value),τ=⟨[],[(0,slV b d.size cap),(1,natV x1),(2,natV y1),(4,cmV P F wa wn wc),(3,natV lim2),(10,.bool wb),(11,.bool wp),(12,natV l),(13,natV k)],[(b,c4,102)]⟩∧DB P cap d4 c4∧d4.size=d.size∧PermIn x1 y1 d3 d4) ?hc3 ?hs3
 case hs3=>
  refine A5o ?_
  by_cases hgo:wb=true∧wp=true∧h=1
  ·obtain⟨rfl,rfl,rfl⟩:=hgo
   repeat refine sr ?_
   refine Q_op fun ho=>A0i [(b,c3,102)] [] ho bod190 Z Z Z Z Z cntA (by rw [←hs3];exact partial_x hP hD3 oM oM oM) (fun x β' hR=>?_)
   clear ho
   obtain⟨rfl,d4,c4,rfl,hD4,hs4,hp4⟩:=hR
   rw [List.append_nil]
   have hh:=Go.Sort.partialInsertionSort_holds (swoW P) d3 x1 y1 oM oM hB3
   rw [←hp4]at hh
   cases hb:(Go.Sort.partialInsertionSort (ltW P) d3 x1 y1).2 with
   | true=>
    repeat refine sr ?_
    refine A0l tab [(b,c4,102)] .nil (Back.here cntL) ?_
    exact⟨Z,d4,c4,Z,hD4,oM,hR1 d4 (Go.Sort.permIn_trans _ _ _ _ _ hp13 hh.1) (hh.2 hb)⟩
   | false=>
    repeat refine sr ?_
    exact A0c ⟨_,v,⟨Z,d4,c4,Z,hD4,oM,hh.1⟩,⟨Z,rg,cntL⟩,Le.refl _⟩
  ·cases wb with
   | false=>
    repeat refine sr ?_
    exact A0c ⟨_,v,⟨Z,d3,c3,Z,hD3,hs3,Go.Sort.permIn_refl _ _ _⟩,⟨Z,rg,cntL⟩,Le.refl _⟩
   | true=>
    cases wp with
    | false=>
     repeat refine sr ?_
     exact A0c ⟨_,v,⟨Z,d3,c3,Z,hD3,hs3,Go.Sort.permIn_refl _ _ _⟩,⟨Z,rg,cntL⟩,Le.refl _⟩
    | true=>
     repeat refine sr ?_
     have hne:h≠1:=fun e=>hgo ⟨Z,Z,e⟩
     rw [show((h:Int)==1)=false from by simp;omega]
     repeat refine sr ?_
     exact A0c ⟨_,v,⟨Z,d3,c3,Z,hD3,hs3,Go.Sort.permIn_refl _ _ _⟩,⟨Z,rg,cntL⟩,Le.refl _⟩
 rintro _ v ⟨rfl,d4,c4,rfl,hD4,hs4,hp4⟩
 have hB4:=Go.Sort.Below.permA Go.Sort.permIn_all oM hB3 hp4
 have hp14:=Go.Sort.permIn_trans _ _ _ _ _ hp13 hp4
 clear hB1 hB2 hB3 hp2 hp3 hp4 hp13 hD1 hD2 hD3
 -- partitionEqual?
 refine A6f (fun τ w=>w=v∧τ=⟨[],[(0,slV b d.size cap),(1,natV x1),(2,natV y1),(4,cmV P F wa wn wc),(3,natV lim2),(10,.bool wb),(11,.bool wp),(12,natV l),(13,natV k)],[(b,c4,102)]⟩) ?hc4 ?hs4
 case hs4=>
  refine A5o ?_
  repeat refine sr ?_
  refine lexL A1w Z kR ?_
  repeat refine st ?_
  by_cases hx0:0<x1
  ·rw [show decide ((x1:Int) > 0)=true from decide_eq_true oM]
   repeat refine st ?_
   refine A2i tab (x1-1) Z Z Z Z oM Z Z oM ?_
   refine A1y tab Z Z Z InB.head (hD4.read oM) ?_
   repeat refine st ?_
   refine A2i tab k Z Z Z Z oM Z Z oM ?_
   refine A1y tab Z Z Z InB.head (hD4.read oM) ?_
   repeat refine st ?_
   refine A3r A5i Z Z Z Z Z (A2s hP (hD4.ok oM) (hD4.ok oM)) ?_
   repeat refine st ?_
   cases hlt:ltW P d4[x1-1]! d4[k]! with
   | true=>
    rw [show decide (cmpW P d4[x1-1]! d4[k]! < 0)=true from hlt]
    repeat refine sr ?_
    exact A0c ⟨_,v,⟨Z,Z⟩,⟨Z,rg,cntL⟩,Le.refl _⟩
   | false=>
    rw [show decide (cmpW P d4[x1-1]! d4[k]! < 0)=false from hlt]
    repeat refine sr ?_
    refine Q_op fun ho=>A0i [(b,c4,102)] [] ho bod191 Z Z Z Z Z cntA (by rw [←hs4];exact partEq_x hP hD4 oM hk.1 hk.2 oM) (fun x β' hR=>?_)
    clear ho
    obtain⟨rfl,d5,c5,rfl,hD5,hs5,hp5⟩:=hR
    rw [List.append_nil]
    obtain⟨m,hm⟩:∃m,m=(Go.Sort.partitionEqual (ltW P) d4 x1 y1 k).1:=⟨_,rfl⟩
    rw [←hm]
    obtain⟨q1,q2,q3,q4,q5⟩:=Go.Sort.round_eq (swoW P) (Go.Sort.partitionEqual_holds _) hx0 hk.1 hk.2 oM hB4 hlt (mid:=m) (d4:=d5) (by rw [hm,hp5])
    repeat refine sr ?_
    refine A0c ⟨⟨m,y1,lim2,wb,wp,d5,c5⟩,v,by simp only;omega,⟨Z,rg,cntL⟩,Le.refl _,Z,hD5,by simp only;omega,by simp only;omega,q2,hy1,hl2,q4,fun R r1 r2=>?_⟩
    obtain⟨r3,r4⟩:=q5 R r1 r2
    exact hR1 R (Go.Sort.permIn_trans _ _ _ _ _ hp14 r3) r4
  ·rw [show decide ((x1:Int) > 0)=false from decide_eq_false oM]
   repeat refine sr ?_
   exact A0c ⟨_,v,⟨Z,Z⟩,⟨Z,rg,cntL⟩,Le.refl _⟩
 rintro _ v ⟨rfl,rfl⟩
 repeat refine sr ?_
 refine Q_op fun ho=>A0i [(b,c4,102)] [] ho bod192 Z Z Z Z Z cntA (by rw [←hs4];exact part_x hP hD4 oM hk.1 hk.2 oM) (fun x β' hR=>?_)
 clear ho
 obtain⟨rfl,d5,c5,rfl,hD5,hs5,hp5⟩:=hR
 rw [List.append_nil]
 obtain⟨m,hm⟩:∃m,m=(Go.Sort.partition (ltW P) d4 x1 y1 k).1:=⟨_,rfl⟩
 obtain⟨ap,hap⟩:∃ap,ap=(Go.Sort.partition (ltW P) d4 x1 y1 k).2.1:=⟨_,rfl⟩
 rw [←hm,←hap]
 obtain⟨q1,q2,q3,q4,q5,q6,q7⟩:=Go.Sort.round_part (swoW P) (Go.Sort.partition_holds _) hk.1 hk.2 oM hB4 (mid:=m) (d4:=d5) (ap:=ap) (by rw [hm,hap,hp5])
 repeat refine sr ?_
 by_cases hlr:m-x1<y1-m
 ·rw [show decide ((m:Int)-(x1:Int)<(y1:Int)-(m:Int))=true from decide_eq_true oM]
  repeat refine sr ?_
  refine Q_op fun ho=>A0i [(b,c5,102)] [] ho bod171 Z Z Z Z Z cntA (by rw [show d.size=d5.size by omega];exact IH (x:=x1) (y:=m) oM hD5 oM q1 oM hl2 q4) (fun x β' hR=>?_)
  clear ho
  obtain⟨rfl,d6,c6,rfl,hD6,hs6,hp6,hso6⟩:=hR
  rw [List.append_nil]
  obtain⟨r1,r2⟩:=q6 d6 hp6 hso6
  repeat refine sr ?_
  refine A0c ⟨⟨m+1,y1,lim2,_,ap,d6,c6⟩,v,by simp only;omega,⟨Z,rg,cntL⟩,Le.refl _,Z,hD6,by simp only;omega,by simp only;omega,q2,hy1,hl2,r1,fun R t1 t2=>?_⟩
  obtain⟨r3,r4⟩:=r2 R t1 t2
  exact hR1 R (Go.Sort.permIn_trans _ _ _ _ _ hp14 r3) r4
 ·rw [show decide ((m:Int)-(x1:Int)<(y1:Int)-(m:Int))=false from decide_eq_false oM]
  repeat refine sr ?_
  refine Q_op fun ho=>A0i [(b,c5,102)] [] ho bod171 Z Z Z Z Z cntA (by rw [show d.size=d5.size by omega];exact IH (x:=m+1) (y:=y1) oM hD5 oM q2 oM hl2 q5) (fun x β' hR=>?_)
  clear ho
  obtain⟨rfl,d6,c6,rfl,hD6,hs6,hp6,hso6⟩:=hR
  rw [List.append_nil]
  obtain⟨r1,r2⟩:=q7 d6 hp6 hso6
  repeat refine sr ?_
  refine A0c ⟨⟨x1,m,lim2,_,ap,d6,c6⟩,v,by simp only;omega,⟨Z,rg,cntL⟩,Le.refl _,Z,hD6,by simp only;omega,hx1,q1,by simp only;omega,hl2,r1,fun R t1 t2=>?_⟩
  obtain⟨r3,r4⟩:=r2 R t1 t2
  exact hR1 R (Go.Sort.permIn_trans _ _ _ _ _ hp14 r3) r4
theorem pdq_x(hP:P<8):∀N,PdqS mn P cap N
 | 0=>fun h=>absurd h (Nat.not_lt_zero _)
 | N+1=>pdq_step hP (pdq_x hP N)
end
section
variable{mn:Who}{v:View}{P cap:Nat}{d:Array Wl}{c:Array Value}
theorem sort_x{b:Nat}{F:Int}{wa:Option Addr}{wn wc:Nat}(hP:P<8)(hD:DB P cap d c)(h256:d.size<256) :
  CallsB prog mn 137 #[slV b d.size cap,cmV P F wa wn wc] (RetB fun r β'=>r = .tuple #[]∧SBox P cap b (fun d'=>d'.size=d.size∧PermIn 0 d.size d d'∧SortedIn (ltW P) 0 d.size d') β') [(b,c,102)] v:=by
 refine A0f tab func137 Z nB (args:=[_,_]) ?_
 repeat refine st ?_
 rw [wrapU oM]
 refine Q_op fun ho=>A0s ho bod172 Z Z Z Z Z (len_x (x:=d.size) h256) ?_
 clear ho
 repeat refine st ?_
 have h8:=(len64_x (mn:=mn) (v:=v) h256).2
 refine Q_op fun ho=>A0i [(b,c,102)] [] ho bod171 Z Z Z Z Z cntA (pdq_x hP (d.size+1) (x:=0) oM hD h256 (Nat.zero_le _) (Nat.le_refl _) oM (.inl Z)) (fun x β' hR=>?_)
 clear ho
 obtain⟨rfl,d2,c2,rfl,hD2,hs2,hp2⟩:=hR
 rw [List.append_nil]
 repeat refine st ?_
 refine A1t tab [(b,c2,102)] .nil (Back.here cntL) ?_
 exact⟨Z,d2,c2,Z,hD2,hs2,hp2⟩
theorem B2v{P F:Nat}(hP:P≤8)(hF:F≤8){ws:List Wd}{d d':Array Wl}(hn:d.toList.Nodup)(hm:∀w,w∈d.toList↔w∈A2a P F∧can P ws w=true)
  (hp:PermIn 0 d.size d d')(hs:SortedIn (ltW P) 0 d.size d'):d'.toList=A0g P F ws:=by
 have hsz:=hp.1
 have hperm:d'.toList.Perm d.toList:=by
  have:=hp.2.2
  have e1:d'.extract 0 d.size=d':=by rw [←hsz];simp
  have e2:d.extract 0 d.size=d:=by simp
  rwa [e1,e2]at this
 have hn':d'.toList.Nodup:=hperm.nodup_iff.2 hn
 have hm':∀w,w∈d'.toList↔w∈A2a P F∧can P ws w=true:=fun w=>by rw [hperm.mem_iff,hm]
 refine worldsL_eq hP hF ?_ hm'
 refine List.pairwise_iff_getElem.2 fun i j hi hj hij=>?_
 have h1:=hs i j (Nat.zero_le _) hij (by simpa [hsz]using hj)
 rw [getElem!_pos d' i (by simpa using hi),getElem!_pos d' j (by simpa using hj)]at h1
 have hx:=(hm' d'.toList[i]).1 (List.getElem_mem hi)
 have hy:=(hm' d'.toList[j]).1 (List.getElem_mem hj)
 have hne:d'.toList[i]≠d'.toList[j]:=fun e=>by
  exact(List.pairwise_iff_getElem.1 hn' i j hi hj hij) e
 have ht:=tot hP hF hx.1 hy.1 hne
 simp only [Array.getElem_toList]at ht⊢
 rcases ht with ht|ht
 ·exact ht
 ·rw [h1]at ht;cases ht
end
end Go.Proofs.YtiolobmgibdfmaaGreat
end
section
namespace Go.Proofs.YtiolobmgibdfmaaGreat
open Go Go.Pal Go.Pal.Vo Go.Conc View
open Go.Proofs.Tryz
set_option maxHeartbeats 4000000
set_option maxRecDepth 20000
section
variable{mn:Who}{v:View}
theorem insertion0_x{f:Value}:CallsB prog mn 185 #[.slice none 0 0,.int .i64 0,.int .i64 0,f] (RetB fun r β'=>r = .tuple #[]∧β'=[]) [] v:=by
 refine A0f tab func185 Z nB (args:=[_,_,_,_]) ?_
 repeat refine st ?_
 refine A1o (α:=Nat) (fun z=>⟨[],[(8,.int .i64 1),(2,.int .i64 0)],[]⟩)
  (fun z u=>u=v) (fun z=>z) 0 ⟨Z,rg,cntL⟩ (Le.refl _) Z ?_
 rintro i u rfl
 repeat refine st ?_
 refine A1t tab [] .nil (Back.here cntL) ?_
 exact⟨Z,Z⟩
theorem pdq0_x{f:Value}{lim:Int}:CallsB prog mn 171 #[.slice none 0 0,.int .i64 0,.int .i64 0,.int .i64 lim,f] (RetB fun r β'=>r = .tuple #[]∧β'=[]) [] v:=by
 refine A0f tab func171 Z nB (args:=[_,_,_,_,_]) ?_
 repeat refine st ?_
 refine A1o (α:=Nat) (fun z=>⟨[],[(0,.slice none 0 0),(1,.int .i64 0),(2,.int .i64 0),(4,f),(3,.int .i64 lim),(10,.bool true),(11,.bool true)],[]⟩)
  (fun z u=>u=v) (fun z=>z) 0 ⟨Z,rg,cntL⟩ (Le.refl _) Z ?_
 rintro i u rfl
 repeat refine st ?_
 refine Q_op fun ho=>A0i [] [] ho bod185 Z Z Z Z Z cntA (insertion0_x) (fun x β' hR=>?_)
 clear ho
 obtain⟨rfl,rfl⟩:=hR
 repeat refine st ?_
 refine A0l tab [] .nil (Back.here cntL) ?_
 exact⟨Z,Z⟩
theorem sort0_x{f:Value}:CallsB prog mn 137 #[.slice none 0 0,f] (RetB fun r β'=>r = .tuple #[]∧β'=[]) [] v:=by
 refine A0f tab func137 Z nB (args:=[_,_]) ?_
 repeat refine st ?_
 rw [wrapU oM]
 refine Q_op fun ho=>A0s ho bod172 Z Z Z Z Z (len_x (x:=0) oM) ?_
 clear ho
 repeat refine st ?_
 refine Q_op fun ho=>A0i [] [] ho bod171 Z Z Z Z Z cntA (pdq0_x) (fun x β' hR=>?_)
 clear ho
 obtain⟨rfl,rfl⟩:=hR
 repeat refine st ?_
 refine A1t tab [] .nil (Back.here cntL) ?_
 exact⟨Z,Z⟩
end
end Go.Proofs.YtiolobmgibdfmaaGreat
end
section
namespace Go.Proofs.YtiolobmgibdfmaaGreat
open Go Go.Pal Go.Pal.Vo Go.Conc View
open Go.Proofs.Tryz
open Go.Sort (swp PermIn SortedIn Below SWO)
set_option maxHeartbeats 4000000
theorem FnM_ret{P:Program}{T:Tab P}{fn:Func}{R:Pal.End→A0j→Prop}{ρ:Regs}{β:A0j}{v u:View}{r:Nat}{xs:List Value}(β':A0j)(hur:u r=some (true,.deferred (some [])))(hvr:v r=none)(hvu:v.Le u)(hsub:Subm β' β)
  (h1:ResL T ρ β fn.results.toList xs)(h2:R (.ret (A5l xs)) β'):FnM T fn R v .ret ⟨[{target:=.collected r,args:=#[] }],ρ,β⟩ u:=by
 refine⟨r,Z,hur,hvr,xs,β',h1,h2,fun hb=>?_⟩
 obtain⟨k1,k2⟩:=Back.le (v:=v) hvu hsub hb
 refine⟨k1,fun b x hx=>?_⟩
 have h3:=k2 b x hx
 unfold View.set
 by_cases e:b=r
 ·subst e
  exfalso
  have h4:A0e β b=none:=A4e hb hur
  have h5:=(A8q hsub hb.nodup).2
  unfold View.union at hx
  rw [hvr]at hx
  rw [h5 b x hx]at h4
  cases h4
 ·rw [if_neg e];exact h3
section
variable{mn:Who}{v:View}
theorem wsC_len(l:List Wl):(wsC l).length=l.length*2:=by
 induction l with
 | nil=>rfl
 | cons w l ih=>rw [show wsC (w::l)=wC w++wsC l from rfl,List.length_append,ih,List.length_cons];simp only [List.length_cons,List.length_nil];omega
theorem wsC_at:∀(l:List Wl) (j:Nat) (hj:j<l.length),(wsC l)[j*2]?=some (u8 l[j].1)∧(wsC l)[j*2+1]?=some (u8 l[j].2)
 | w::l,0,_=>⟨rfl,rfl⟩
 | w::l,j+1,hj=>by
  have ih:=wsC_at l j (by simpa using hj)
  have e:wsC (w::l)=u8 w.1::u8 w.2::wsC l:=rfl
  rw [e,show(j+1)*2=j*2+1+1 by omega]
  simpa using ih
theorem db_of_own{P cap b:Nat}{l:List Wl}{c:Array Value}{a:Option Addr}(h:OwnS 102 2 [(b,c,102)] a l.length cap (wsC l))(hok:∀w∈l,WOk P w):a=some ⟨b,0,none⟩∧DB P cap l.toArray c:=by
 cases h with
 | box h1 h2 h3 h4=>
  refine⟨Z,h3,by simpa using h2,fun {i} hi=>?_,fun i hi=>?_⟩
  ·rw [getElem!_pos l.toArray i hi];exact hok _ sM
  ·have hi':i<l.length:=by simpa using hi
   rw [getElem!_pos l.toArray i hi]
   obtain⟨g1,g2⟩:=wsC_at l i hi'
   exact⟨h4 _ _ g1,h4 _ _ g2⟩
theorem B0e{P cap b:Nat}{d:Array Wl}{c:Array Value}(h:DB P cap d c):OwnS 102 2 [(b,c,102)] (some ⟨b,0,none⟩) d.size cap (wsC d.toList):=by
 refine .box (by rw [wsC_len];simp) h.le h.size fun i x hx=>?_
 have hi:=(List.getElem?_eq_some_iff.1 hx).1
 rw [wsC_len]at hi
 have hj:i / 2<d.toList.length:=oM
 obtain⟨g1,g2⟩:=wsC_at d.toList (i / 2) hj
 obtain⟨k1,k2⟩:=h.get (i / 2) (by simpa using hj)
 rw [getElem!_pos d (i / 2) (by simpa using hj)]at k1 k2
 rcases (by omega:i=i / 2*2∨i=i / 2*2+1)with e|e
 ·rw [←e]at g1 k1;rw [g1]at hx;cases hx;exact k1
 ·rw [←e]at g2 k2;rw [g2]at hx;cases hx;exact k2
theorem own_cases{P n cp:Nat}{seg:A0j}{a:Option Addr}{l:List Wl}(h:OwnS 102 2 seg a n cp (wsC l))(hn:n=l.length)(hok:∀w∈l,WOk P w) :
  (l=[]∧seg=[]∧a=none∧n=0∧cp=0)∨∃b c,seg=[(b,c,102)]∧a=some ⟨b,0,none⟩∧DB P cp l.toArray c:=by
 generalize hcs:wsC l=cs at h
 cases h with
 | nil=>exact .inl ⟨List.length_eq_zero_iff.1 hn.symm,rfl,rfl,rfl,rfl⟩
 | @box b c _ _ _ h1 h2 h3 h4=>
  subst hn hcs
  exact .inr ⟨b,c,Z,db_of_own (.box h1 h2 h3 h4) hok⟩
theorem every_wok{P F:Nat}{w:Wl}(hF:F≤3)(h:w∈A2a P F):WOk P w:=by
 unfold A2a at h
 obtain⟨t,ht,h⟩:=List.mem_flatMap.1 h
 obtain⟨s,hs,rfl⟩:=List.mem_map.1 h
 rw [List.mem_range]at ht hs
 have h2:2 ^ F≤2^3:=Nat.pow_le_pow_right dM hF
 exact⟨ht,by simp only;omega⟩
theorem B0n{κ:Type}:∀{l:Ents κ} {e:κ×Value×Nat},(l.map (·.2.2)).Nodup→e∈l→(l.find? fun x=>x.2.2==e.2.2)=some e
 | x::l,e,hn,he=>by
  rw [List.map_cons,List.nodup_cons]at hn
  rcases List.mem_cons.1 he with rfl|he
  ·rw [List.find?_cons_of_pos sM]
  ·rw [List.find?_cons_of_neg,B0n hn.2 he]
   simp only [beq_iff_eq]
   intro h
   exact hn.1 (h ▸ List.mem_map_of_mem (f:=fun x:κ×Value×Nat=>x.2.2) he)
def nthS:Nat→Code→Code
 | 0,c=>c
 | n+1,.seq _ b=>nthS n b
 | _,c=>c
noncomputable def wsTail:Code:=match f80.body with
 | some c=>nthS 9 c
 | none=>.skip
structure TZ where
 done:Ents Wl
 n:Nat
 seg:A0j
 a:Option Addr
 cp:Nat
theorem tail_x{m r bb bca ck P F:Nat}{wa:Option Addr}{wn wc:Nat}{ws:List Wd}{l:Ents Wl}{v v0:View}(hP:P≤4)(hF:F≤3)(hv:v.Le v0)(hvr:v r=none)(hr:v0 r=some (true,.deferred (some [])))
  (hm:v0 m=some (true,mapO wlV l ck))(hk:(l.map (·.1)).Nodup)(hb:(l.map (·.2.2)).Nodup)(hlt:∀e∈l,e.2.2<ck)(hmem:∀w,w∈l.map (·.1)↔w∈A2a P F∧can P ws w=true)(hlen:l.length≤128) :
  XC prog mn none f80.ntmps wsTail (FnM tab f80 (RetB fun x β'=>∃a cap,x = .slice a (A0g P F ws).length cap∧OwnS 102 2 β' a (A0g P F ws).length cap (wsC (A0g P F ws))) v)
   ⟨[{target:=.collected r,args:=#[] }],[(1,.pointer (some ⟨bb,0,none⟩)),(4,.pointer (some ⟨bca,0,none⟩))],[(bca,#[.map (some m)],143),(bb,(boV P F wa wn wc).cells,95)]⟩ v0:=by
 unfold wsTail
 refine A5o ?_
 repeat (first|refine st ?_|refine qb fun bx=>?_)
 refine Q_op fun ho=>A_rangeM tab (val:=wlV) ho Z Z Z Z hm (fun it hit=>?_)
 clear ho
 repeat (first|refine st ?_|refine qb fun bx=>?_)
 have hmit:m≠it:=by intro e;rw [←e,hm]at hit;cases hit
 have hrit:r≠it:=by intro e;rw [←e,hr]at hit;cases hit
 refine A1o (α:=TZ) (fun z=>⟨[{target:=.collected r,args:=#[] }],[(9,.slice z.a z.n z.cp),(28,.pointer (some ⟨it,0,none⟩)),(1,.pointer (some ⟨bb,0,none⟩))],z.seg++[(bb,(boV P F wa wn wc).cells,95)]⟩)
  (fun z u=>u=v0.set it true (.mapIter (some m) ck (z.done.map (·.2.2)).toArray ck)∧z.n=z.done.length∧OwnS 102 2 z.seg z.a z.n z.cp (wsC (z.done.map (·.1)))∧z.done.Nodup∧z.done ⊆ l) (fun z=>l.length-z.n) ⟨[],0,[],none,0⟩
  ⟨Z,rg,cntL⟩ (Le.refl _) ⟨Z,Z,.nil,List.nodup_nil,by simp⟩ ?_
 rintro⟨done,n,seg,a,cp⟩ u ⟨rfl,hn,hS,hdn,hsub⟩
 simp only at hn hS hdn hsub
 have hnl:done.length≤l.length:=hdn.length_le_of_subset hsub
 dsimp only
 repeat (first|refine st ?_|refine qb fun bx=>?_)
 refine Q_op fun ho=>A_nextM (val:=wlV) ho Z Z Z A5g (by rw [A2v hmit];exact hm) hlt (fun e he hs=>?_) (fun hs=>?_)
 ·clear ho
  rw [A6p]
  have hnew:e∉done:=fun h'=>by
   rw [List.contains_toArray]at hs
   have:(done.map (·.2.2)).contains e.2.2=true:=List.contains_iff_mem.2 (List.mem_map_of_mem (f:=fun x:Wl×Value×Nat=>x.2.2) h')
   rw [this]at hs;cases hs
  have hdn':(done++[e]).Nodup:=by
   rw [List.nodup_append]
   refine⟨hdn,by simp,fun x hx y hy=>?_⟩
   rw [List.mem_singleton]at hy
   subst hy
   exact fun h'=>hnew (h' ▸ hx)
  have hsub':done++[e] ⊆ l:=List.append_subset.2 ⟨hsub,by simpa using he⟩
  have hle':=hdn'.length_le_of_subset hsub'
  rw [List.length_append,List.length_singleton]at hle'
  have hfind:=B0n hb he
  obtain⟨w,y,born⟩:=e
  repeat (first|refine st ?_|refine qb fun bx=>?_)
  refine Q_op fun ho=>A_entryM (val:=wlV) (l:=l) (k:=w) (xv:=y) ho Z Z Z A5g (by rw [A2v hmit];exact hm) hfind ?_
  clear ho
  repeat (first|refine st ?_|refine qb fun bx=>?_)
  refine Q_op fun ho=>A3x tab ho Z Z Z Z Z Z Z Z Z (fun b3 c3 hL=>?_)
  clear ho
  refine Q_op fun ho=>A2w tab (xs:=wC w) seg [(b3,c3,102)] [(bx,#[u8 w.1,u8 w.2],102),(bb,(boV P F wa wn wc).cells,95)] ho Z Z Z Z Z Z Z Z Z Z
   (show ∀p,Pal.cnt p ((b3,c3,102)::(bx,#[u8 w.1,u8 w.2],102)::(seg++[(bb,(boV P F wa wn wc).cells,95)]))=Pal.cnt p (seg++([(b3,c3,102)]++[(bx,#[u8 w.1,u8 w.2],102),(bb,(boV P F wa wn wc).cells,95)]))from cntA) hS
   (fun hb=>RowAt.own hb cntL hL) Z Z (by show(2*(n+1)+768)*2≤2^48;omega) oM (fun seg' a' cap' hS'=>?_)
  clear ho
  repeat (first|refine st ?_|refine qb fun bx=>?_)
  refine A0c ⟨⟨done++[(w,y,born)],n+1,seg',a',cap'⟩,_,by simp only;omega,⟨Z,rg,cntL⟩,Le.refl _,?_,by simp only;simp [hn],?_,hdn',hsub'⟩
  ·simp
  ·simp only [List.map_append,List.map_cons,List.map_nil]
   refine hS'.cast ?_
   unfold wsC
   rw [List.flatMap_append,List.flatMap_singleton]
 ·clear ho
  have hall:l ⊆ done:=fun e he=>by
   have h':=hs e he
   rw [List.contains_toArray,List.contains_iff_mem,List.mem_map]at h'
   obtain⟨e',h1,h2⟩:=h'
   have f1:=B0n hb (hsub h1)
   rw [h2,B0n hb he]at f1
   exact(Option.some.inj f1) ▸ h1
  have hln:l.Nodup:=List.Pairwise.of_map (·.2.2) (fun a b h e=>h (e ▸ Z)) hb
  have hp:done.Perm l:=(List.perm_ext_iff_of_nodup hdn hln).2 fun x=>⟨fun h=>hsub h,fun h=>hall h⟩
  have hkd:(done.map (·.1)).Nodup:=(hp.map _).nodup_iff.2 hk
  have hmd:∀w,w∈done.map (·.1)↔w∈A2a P F∧can P ws w=true:=fun w=>by rw [(hp.map _).mem_iff,hmem]
  have hvu:v.Le (v0.set it true (.mapIter (some m) ck (done.map (·.2.2)).toArray ck)):=fun b x hx=>by
   have hx':=hv b x hx
   rw [A2v (fun e=>by rw [e,hit]at hx';cases hx')]
   exact hx'
  have hur:(v0.set it true (.mapIter (some m) ck (done.map (·.2.2)).toArray ck)) r=some (true,.deferred (some [])):=by rw [A2v hrit];exact hr
  have hP8:P≤8:=oM
  have hF8:F≤8:=oM
  rcases own_cases hS (by rw [hn,List.length_map]) (fun w hw=>every_wok hF ((hmd w).1 hw).1)with ⟨h1,rfl,rfl,h2,rfl⟩|⟨b,c,rfl,rfl,hD⟩
  ·rw [h1]at hkd hmd
   subst h2
   have hres:=B2v (d:=#[]) (d':=#[]) hP8 hF8 hkd hmd (Go.Sort.permIn_refl _ _ _) (fun i j _ _ h=>absurd h sM)
   repeat (first|refine st ?_|refine qb fun bx=>?_)
   refine Q_op fun ho=>A0i [] [(bb,(boV P F wa wn wc).cells,95)] ho bod137 Z Z Z Z Z cntA (sort0_x) (fun x β' hR=>?_)
   clear ho
   obtain⟨rfl,rfl⟩:=hR
   repeat (first|refine st ?_|refine qb fun bx=>?_)
   refine FnM_ret [] hur hvr hvu cntL (by exact .tmp rfl .nil) ?_
   rw [←hres]
   exact⟨none,0,Z,.nil⟩
  ·have hsz:(done.map (·.1)).toArray.size=n:=by simp [hn]
   rw [←hsz]
   repeat (first|refine st ?_|refine qb fun bx=>?_)
   refine Q_op fun ho=>A0i [(b,c,102)] [(bb,(boV P F wa wn wc).cells,95)] ho bod137 Z Z Z Z Z cntA (sort_x oM hD (by rw [hsz];omega)) (fun x β' hR=>?_)
   clear ho
   obtain⟨rfl,d',c',rfl,hD',hs',hp',hso⟩:=hR
   have hres:=B2v (d:=(done.map (·.1)).toArray) (d':=d') hP8 hF8 hkd hmd hp' hso
   repeat (first|refine st ?_|refine qb fun bx=>?_)
   refine FnM_ret [(b,c',102)] hur hvr hvu cntL (by exact .tmp rfl .nil) ?_
   have hw:=B0e (b:=b) hD'
   rw [hres]at hw
   have hlen':(A0g P F ws).length=d'.size:=by rw [←hres];simp
   rw [hlen']
   refine⟨some ⟨b,0,none⟩,cp,?_,hw⟩
   show Value.slice (some ⟨b,0,none⟩) (done.map (·.1)).toArray.size cp=_
   rw [hs']
end
end Go.Proofs.YtiolobmgibdfmaaGreat
end
section
namespace Go.Proofs.YtiolobmgibdfmaaGreat
open Go Go.Pal Go.Pal.Mu Go.Pal.Vo Go.Conc View
open Go.Proofs.Tryz
set_option maxHeartbeats 4000000
section
variable{v:View}
theorem entsW_len(P F:Nat):(A4i P F (2 ^ P*2 ^ F)).length=2 ^ P*2 ^ F:=by
 unfold A4i
 rw [List.length_map,List.length_zipIdx,List.length_take,A3w];omega
theorem entsW_born(P F n:Nat):((A4i P F n).map (·.2.2)).Nodup:=by
 have:(A4i P F n).map (·.2.2)=((A2a P F).take n).zipIdx.map Prod.snd:=by
  unfold A4i
  rw [List.map_map]
  rfl
 rw [this,List.zipIdx_map_snd]
 exact List.nodup_range'
theorem entsW_get{P F i:Nat}{w:Wl}(h:(A2a P F)[i]?=some w):(w,Value.bool true,i)∈A4i P F (2 ^ P*2 ^ F):=by
 have hi:=(List.getElem?_eq_some_iff.1 h).1
 rw [A3w]at hi
 unfold A4i
 rw [List.mem_map]
 refine⟨(w,i),?_,Z⟩
 rw [List.mem_iff_getElem?]
 refine⟨i,?_⟩
 rw [List.getElem?_zipIdx,List.getElem?_take_of_lt hi,h]
 simp
def keepW(P F:Nat)(ws:List Wd)(i:Nat):Bool:=match (A2a P F)[i]? with
 | some w=>can P ws w
 | none=>false
def leftW(P F:Nat)(L:List Nat):Ents Wl:=(A4i P F (2 ^ P*2 ^ F)).filter fun e=>decide (e.2.2∉L)
theorem left_mem{P F:Nat}{ws:List Wd}{L:List Nat}(h1:∀a,a<2 ^ P*2 ^ F→keepW P F ws a=false→a∈L)(h2:∀a∈L,a<2 ^ P*2 ^ F∧keepW P F ws a=false)(w:Wl) :
  w∈(leftW P F L).map (·.1)↔w∈A2a P F∧can P ws w=true:=by
 constructor
 ·intro h
  obtain⟨e,he,rfl⟩:=List.mem_map.1 h
  obtain⟨h3,h4⟩:=List.mem_filter.1 he
  have h5:=(B3r h3).2
  refine⟨List.mem_of_getElem? h5,?_⟩
  have hi:=(List.getElem?_eq_some_iff.1 h5).1
  rw [A3w]at hi
  have h6:keepW P F ws e.2.2=can P ws e.1:=by unfold keepW;rw [h5]
  cases hc:can P ws e.1 with
  | true=>rfl
  | false=>exact absurd (h1 _ hi (h6.trans hc)) (by simpa using h4)
 ·rintro⟨h3,h4⟩
  obtain⟨i,h5⟩:=List.mem_iff_getElem?.1 h3
  refine List.mem_map.2 ⟨(w,.bool true,i),List.mem_filter.2 ⟨entsW_get h5,?_⟩,Z⟩
  simp only [decide_eq_true_eq]
  intro h6
  have h7:=(h2 i h6).2
  unfold keepW at h7
  rw [h5]at h7
  have h8:can P ws w=false:=h7
  rw [h4]at h8
  cases h8
theorem left_keys(P F:Nat)(L:List Nat):((leftW P F L).map (·.1)).Nodup:=(entsW_keys P F _).sublist (List.filter_sublist.map _)
theorem left_born(P F:Nat)(L:List Nat):((leftW P F L).map (·.2.2)).Nodup:=(entsW_born P F _).sublist (List.filter_sublist.map _)
theorem left_lt{P F:Nat}{L:List Nat}{e:Wl×Value×Nat}(h:e∈leftW P F L):e.2.2<2 ^ P*2 ^ F:=by
 have:=(List.getElem?_eq_some_iff.1 (B3r (List.mem_filter.1 h).1).2).1
 rwa [A3w]at this
theorem left_len{P F:Nat}(hP:P≤4)(hF:F≤3)(L:List Nat):(leftW P F L).length≤128:=by
 have h1:=List.length_filter_le (fun e:Wl×Value×Nat=>decide (e.2.2∉L)) (A4i P F (2 ^ P*2 ^ F))
 rw [entsW_len]at h1
 have h2:2 ^ P≤2^4:=Nat.pow_le_pow_right dM hP
 have h3:2 ^ F≤2^3:=Nat.pow_le_pow_right dM hF
 have h4:2 ^ P*2 ^ F≤2^4*2^3:=Nat.mul_le_mul h2 h3
 exact Nat.le_trans h1 oM
theorem left_nil(P F:Nat):leftW P F []=A4i P F (2 ^ P*2 ^ F):=List.filter_eq_self.2 fun e _=>by simp
theorem row_keep{A:Par}{x V:View}{a:Option Addr}{cs:List Value}(h:RowAt x a cs)(hx:∀b y,x b=some y→V b=some y∧¬(b=A.Mu∨b=A.Wg∨b=A.Cn∨b=A.Cm)):RowAt (A6t A V) a cs:=by
 rcases h with h|⟨b,off,p,c,e,f,h1,h2,h3,h4⟩
 ·exact .inl h
 ·obtain⟨h5,h6⟩:=hx _ _ h2
  exact .inr ⟨b,off,false,c,e,f,h1,B0k h5 h6,h3,h4⟩
end
section
variable{v:View}
noncomputable def wsMid:Code:=match f80.body with
 | some c=>nthS 7 c
 | none=>.skip
theorem join_x{P F:Nat}{wa sa:Option Addr}{wc cp m r bb bal bca be bc bm bw:Nat}{seg:A0j}{V1:View}{ws:List Wd}(hP:P≤4)(hF:F≤3)(hws:WdsAt v wa ws)(hx:∀x∈ws,Fit x)(hwl:ws.length<2^30)
    (hm0:v m=none)(hvr:v r=none)(hmr:m≠r)(hVm:V1 m=some (true,mapO wlV (A4i P F (2 ^ P*2 ^ F)) (2 ^ P*2 ^ F)))(hVr:V1 r=some (true,.deferred (some [])))(hVv:v.Le V1)
    (hrow:OwnS 102 2 seg sa (2 ^ P*2 ^ F) cp (wsC (A2a P F))) :
    XC prog ⟨true,true⟩ none f80.ntmps wsMid (FnM tab f80 (RetB fun x β'=>∃a cap,x = .slice a (A0g P F ws).length cap∧OwnS 102 2 β' a (A0g P F ws).length cap (wsC (A0g P F ws))) v)
      ⟨[{target:=.collected r,args:=#[] }],[(8,.pointer (some ⟨bw,0,none⟩)),(7,.pointer (some ⟨bm,0,none⟩)),(6,.pointer (some ⟨bc,0,none⟩)),(3,.pointer (some ⟨bal,0,none⟩)),(4,.pointer (some ⟨bca,0,none⟩)),(1,.pointer (some ⟨bb,0,none⟩))],
        (bw,(Value.agg #[.int .u64 0,.int .u32 0]).cells,161)::(bm,(Value.agg #[.int .i32 0,.int .u32 0]).cells,157)::(bc,(Value.agg #[.int .i64 0]).cells,151)::([(bal,#[.slice sa (2 ^ P*2 ^ F) cp],93),(bca,#[.map (some m)],143),(bb,(boV P F wa ws.length wc).cells,95),(be,(boV P F wa ws.length wc).cells,95)]++seg)⟩ V1:=by
  have hp1:2 ^ P≤2^4:=Nat.pow_le_pow_right dM hP
  have hp2:2 ^ F≤2^3:=Nat.pow_le_pow_right dM hF
  have hn128:2 ^ P*2 ^ F≤2^4*2^3:=Nat.mul_le_mul hp1 hp2
  obtain⟨A,hA⟩:∃A:Par,A={J:=4,N:=2 ^ P*2 ^ F,keep:=keepW P F ws,Mu:=bm,Wg:=bw,Cn:=bc,Cm:=m,tM:=157,tW:=161,tC:=151,con:=conW P F,J1:=by decide,J2:=by decide }:=⟨_,rfl⟩
  obtain⟨β,hβ⟩:∃β:A0j,β=(bw,#[.int .u64 0,.int .u32 0],161)::(bm,#[.int .i32 0,.int .u32 0],157)::(bc,#[.int .i64 0],151)::(bal,#[.slice sa (2 ^ P*2 ^ F) cp],93)::(bca,#[.map (some m)],143)::(bb,(boV P F wa ws.length wc).cells,95)::seg:=⟨_,rfl⟩
  refine XC_sub (τ:=⟨[{target:=.collected r,args:=#[] }],wsIn A (.pointer (some ⟨bal,0,none⟩)) (.pointer (some ⟨bb,0,none⟩)) (.pointer (some ⟨bca,0,none⟩)),β⟩) (u:=V1) ?_ ⟨Z,(by subst hA;exact⟨Z,Z,Z,Z,Z,Z,trivial⟩),?_⟩ (Le.refl _)
  rotate_left
  · subst hβ
    exact(show Subm ((bw,#[.int .u64 0,.int .u32 0],161)::(bm,#[.int .i32 0,.int .u32 0],157)::(bc,#[.int .i64 0],151)::(bal,#[.slice sa (2 ^ P*2 ^ F) cp],93)::(bca,#[.map (some m)],143)::(bb,(boV P F wa ws.length wc).cells,95)::seg)
      ((bw,#[.int .u64 0,.int .u32 0],161)::(bm,#[.int .i32 0,.int .u32 0],157)::(bc,#[.int .i64 0],151)::([(bal,#[.slice sa (2 ^ P*2 ^ F) cp],93),(bca,#[.map (some m)],143),(bb,(boV P F wa ws.length wc).cells,95),(be,(boV P F wa ws.length wc).cells,95)]++seg))from cntL)
  intro act hfit hb
  have i1:InB bw #[.int .u64 0,.int .u32 0] 161 β:=by subst hβ;exact .head
  have i2:InB bm #[.int .i32 0,.int .u32 0] 157 β:=by subst hβ;exact .tail .head
  have i3:InB bc #[.int .i64 0] 151 β:=by subst hβ;exact .tail (.tail .head)
  have i4:InB bal #[.slice sa (2 ^ P*2 ^ F) cp] 93 β:=by subst hβ;exact .tail (.tail (.tail .head))
  have i5:InB bca #[.map (some m)] 143 β:=by subst hβ;exact .tail (.tail (.tail (.tail .head)))
  have i6:InB bb (boV P F wa ws.length wc).cells 95 β:=by subst hβ;exact .tail (.tail (.tail (.tail (.tail .head))))
  have hVn:∀{b c t},InB b c t β→V1 b=none:=fun hin=>(hb.disj _).resolve_right (by rw [A3p hb.nodup hin.mem];simp)
  have hmn:∀{b c t},InB b c t β→m≠b:=fun hin e=>by have:=hVn hin;rw [←e,hVm]at this;cases this
  have hnd:=hb.nodup
  have hseg:Subm seg β:=by subst hβ;exact cntL
  have hsle:=(A8q hseg hb.nodup).2
  have hsub2:Subm [(bca,#[.map (some m)],143),(bb,(boV P F wa ws.length wc).cells,95)] β:=by subst hβ;exact cntL
  have hms:A0e seg m=none:=by
    cases e:A0e seg m with
    | none=>rfl
    | some y=>have:=hsle _ _ e;rw [A4e hb hVm]at this;cases this
  rw [hβ]at hnd
  simp only [List.map_cons,List.nodup_cons,List.mem_cons,not_or]at hnd
  obtain⟨⟨d1,d2,d3,d4,d5,d6⟩,⟨d7,d8,d9,d10,d11⟩,⟨d12,d13,d14,d15⟩,_⟩:=hnd
  have D:Dist A:=by
    subst hA
    exact⟨fun e=>d1 e.symm,d7,fun e=>hmn i2 e.symm,d2,fun e=>hmn i1 e.symm,fun e=>hmn i3 e.symm,by show 2 ^ P*2 ^ F≤2^62;omega⟩
  have hseg4:∀b y,A0e seg b=some y→¬(b=bm∨b=bw∨b=bc∨b=m):=by
    rintro b y hy (rfl|rfl|rfl|rfl)
    · exact d11 (A5a hy)
    · exact d6 (A5a hy)
    · exact d15 (A5a hy)
    · rw [hms]at hy;cases hy
  have hv4:∀b y,v b=some y→¬(b=bm∨b=bw∨b=bc∨b=m):=by
    rintro b y hy (rfl|rfl|rfl|rfl)
    · have:=hVv _ _ hy;rw [hVn i2]at this;cases this
    · have:=hVv _ _ hy;rw [hVn i1]at this;cases this
    · have:=hVv _ _ hy;rw [hVn i3]at this;cases this
    · rw [hm0]at hy;cases hy
  have hdo:Deeds A (A6t A (V1.union (A0e β))) (.pointer (some ⟨bal,0,none⟩)) (.pointer (some ⟨bb,0,none⟩)) (.pointer (some ⟨bca,0,none⟩)):=by
    subst hA
    refine deeds_x hP hF Z (fun t w hw=>?_) Z (B0k (A1f hb i4) ?_) (B0k (A1f hb i6) ?_) (B0k (A1f hb i5) ?_) (row_keep hrow.row fun b y hy=>⟨A1u hb.disj _ _ (hsle _ _ hy),hseg4 b y hy⟩) (row_keep hws fun b y hy=>⟨A1p (hVv _ _ hy),hv4 b y hy⟩) hx hwl keepV_cm
    · show keepW P F ws t=_
      unfold keepW;rw [hw]
    · rintro(e|e|e|e)
      · exact d8 e.symm
      · exact d3 e.symm
      · exact d12 e.symm
      · exact hmn i4 e.symm
    · rintro(e|e|e|e)
      · exact d10 e.symm
      · exact d5 e.symm
      · exact d14 e.symm
      · exact hmn i6 e.symm
    · rintro(e|e|e|e)
      · exact d9 e.symm
      · exact d4 e.symm
      · exact d13 e.symm
      · exact hmn i5 e.symm
  subst hA
  refine ws_XC (body:=wsBody) (rest:=wsTail) D Z (A1f hb i2) (A1f hb i1) (A1f hb i3) ((A1p hVm).trans ?_) hdo Z ?_ Z Z Z (fun L hL1 hL2=>?_) act hfit hb
  · show _=some (true,mapO wlV (leftW P F []) (2 ^ P*2 ^ F))
    rw [left_nil]
  · repeat refine sr ?_
    exact⟨Z,Z,Z⟩
  · obtain⟨k1,k2⟩:=Back.here (v:=V1) hsub2 hb
    refine⟨V1.set m true (conW P F L),[(bca,#[.map (some m)],143),(bb,(boV P F wa ws.length wc).cells,95)],(A4r k1 (A4e k1 hVm)).1,fun b y hy=>?_,?_⟩
    · by_cases e:b=m
      · subst e
        left
        rw [A1p A5g]at hy
        exact⟨Z,(Option.some.inj hy).symm⟩
      · right
        have hy':(V1.union (A0e [(bca,#[.map (some m)],143),(bb,(boV P F wa ws.length wc).cells,95)])) b=some y:=by
          unfold View.union at hy⊢
          rw [A2v e]at hy
          exact hy
        refine⟨?_,k2 _ _ hy'⟩
        have hno:∀{c t},InB b c t β→b≠bca→b≠bb→False:=fun hin h1 h2=>by
          unfold View.union at hy'
          rw [hVn hin,A8r (by simp [h1,h2])]at hy'
          cases hy'
        rintro(e'|e'|e'|e')
        · subst e';exact hno i2 d9 d10
        · subst e';exact hno i1 d4 d5
        · subst e';exact hno i3 d13 d14
        · exact e e'
    · refine XC_sub (τ:=⟨[{target:=.collected r,args:=#[] }],[(1,.pointer (some ⟨bb,0,none⟩)),(4,.pointer (some ⟨bca,0,none⟩))],[(bca,#[.map (some m)],143),(bb,(boV P F wa ws.length wc).cells,95)]⟩) (u:=V1.set m true (conW P F L))
        (tail_x hP hF (fun b y hy=>?_) hvr ?_ (A5g (o:=mapO wlV (leftW P F L) (2 ^ P*2 ^ F))) (left_keys P F L) (left_born P F L) (fun e he=>left_lt he) (left_mem hL1 hL2) (left_len hP hF L)) ⟨Z,⟨Z,Z,trivial⟩,fun _=>Nat.le_refl _⟩ (Le.refl _)
      · rw [A2v (fun e=>by rw [e,hm0]at hy;cases hy)]
        exact hVv _ _ hy
      · rw [A2v (fun e=>hmr e.symm)];exact hVr
theorem worlds_x{P F:Nat}{wa:Option Addr}{wc:Nat}{ws:List Wd}(hP:P≤4)(hF:F≤3)(hws:WdsAt v wa ws)(hx:∀x∈ws,Fit x)(hwl:ws.length<2^30) :
  CallsB prog ⟨true,true⟩ 80 #[boV P F wa ws.length wc] (RetB fun x β'=>∃a cap,x = .slice a (A0g P F ws).length cap∧OwnS 102 2 β' a (A0g P F ws).length cap (wsC (A0g P F ws))) [] v:=by
 refine callsB_fnM tab func80 Z nB (args:=[_]) ?_
 repeat (first|refine sr ?_|refine qb fun bx=>?_)
 rename_i bb
 refine Q_op fun ho=>A_makeMap (val:=wlV) ho Z Z (fun m hm0=>?_)
 clear ho
 repeat (first|refine sr ?_|refine qb fun bx=>?_)
 rename_i bal
 refine A5o ?_
 repeat (first|refine sr ?_|refine qb fun bx=>?_)
 refine Q_op fun ho=>A0i [] _ ho bod129 Z Z Z Z Z A1n (every_x) (fun x β' hR=>?_)
 clear ho
 obtain⟨be,rfl,rfl⟩:=hR
 repeat (first|refine sr ?_|refine qb fun bx=>?_)
 refine XC_rangeFunc Z bod149 (fun act r l fnId hfit hbok hr0 hl0 hrl hbr hbl=>?_)
 have hmr:m≠r:=fun e=>by rw [←e,A5g]at hr0;cases hr0
 have hml:m≠l:=fun e=>by rw [←e,A5g]at hl0;cases hl0
 have hp1:2 ^ P≤2^4:=Nat.pow_le_pow_right dM hP
 have hp2:2 ^ F≤2^3:=Nat.pow_le_pow_right dM hF
 have hn128:2 ^ P*2 ^ F≤2^4*2^3:=Nat.mul_le_mul hp1 hp2
 obtain⟨H,hH⟩:∃H:WH,H=⟨P,F,wa,ws.length,wc,bal,bx,bb,be,m,r,l⟩:=⟨_,rfl⟩
 obtain⟨lp,hlp⟩:∃lp:Loop,lp={state:=.ready,pending:=none,fn:=fnId,tmps:=act.tmps,params:=#[14],assign:=rfA,body:=rfB,defers:=r }:=⟨_,rfl⟩
 have hbk0:Bok [(be,(boV P F wa ws.length wc).cells,95),(bx,#[.map (some m)],143),(bal,#[.slice none 0 0],93),(bb,(boV P F wa ws.length wc).cells,95)] (H.view v lp 0):=by
  subst hH hlp
  exact(A4r (A4r hbok hbr).1 hbl).1
 have h0:H.I v lp 0 ((H.view v lp 0).union (A0e [(be,(boV P F wa ws.length wc).cells,95),(bx,#[.map (some m)],143),(bal,#[.slice none 0 0],93),(bb,(boV P F wa ws.length wc).cells,95)])):=by
  obtain⟨k1,k2⟩:=Back.here (β':=H.box none 0 0++[]) (by subst hH;exact(show Subm [(bal,#[.slice none 0 0],93),(bx,#[.map (some m)],143),(bb,(boV P F wa ws.length wc).cells,95),(be,(boV P F wa ws.length wc).cells,95)] [(be,(boV P F wa ws.length wc).cells,95),(bx,#[.map (some m)],143),(bal,#[.slice none 0 0],93),(bb,(boV P F wa ws.length wc).cells,95)]from cntL)) hbk0
  exact⟨[],none,0,k1,.nil,k2⟩
 have hcall:CallsX prog ⟨true,true⟩ 149 #[.func (.yield l) #[] #[],.pointer (some ⟨be,0,none⟩)] (fun e u=>e = .ret (.tuple #[])∧H.I v lp (2 ^ P*2 ^ F) u) ((H.view v lp 0).union (A0e [(be,(boV P F wa ws.length wc).cells,95),(bx,#[.map (some m)],143),(bal,#[.slice none 0 0],93),(bb,(boV P F wa ws.length wc).cells,95)])):=by
  refine every1_x (P:=P) (F:=F) (a:=wa) (n:=ws.length) (cap:=wc) (I:=H.I v lp) oM oM (fun k u hI=>?_) (fun t s u ht hs hI=>?_) h0
  ·obtain⟨seg,sa,cp,hbk,hS,hle⟩:=hI
   subst hH
   refine⟨true,95,(0,0),hle _ _ (A1f hbk ?_)⟩
   unfold WH.box
   exact .tail (.tail (.tail .head))
  ·subst hH
   subst hlp
   exact round_x hP hF hmr hml hrl Z Z Z Z Z hfit.size (hfit.get 3 _ Z) (hfit.get 4 _ Z) ht hs hI
 refine CallsX.mono (v:=((⟨P,F,wa,ws.length,wc,bal,bx,bb,be,m,r,l⟩:WH).view v {state:=.ready,pending:=none,fn:=fnId,tmps:=act.tmps,params:=#[14],assign:=rfA,body:=rfB,defers:=r } 0).union (A0e [(be,(boV P F wa ws.length wc).cells,95),(bx,#[.map (some m)],143),(bal,#[.slice none 0 0],93),(bb,(boV P F wa ws.length wc).cells,95)])) (R:=fun e u=>e = .ret (.tuple #[])∧H.I v lp (2 ^ P*2 ^ F) u) (by rw [←hH,←hlp];exact hcall) fun e u hR=>⟨u,Le.refl _,?_⟩
 clear hcall h0 hbk0
 obtain⟨rfl,seg,sa,cp,hbk,hS,hle⟩:=hR
 have hl1:(H.view v lp (2 ^ P*2 ^ F)) l=some (true,.loop lp):=by subst hH;exact A5g
 have hlf:=A4e hbk hl1
 obtain⟨q1,q2⟩:=A4r (p:=true) (o:=.loop {lp with state:=.exhausted }) hbk hlf
 refine⟨.tuple #[],lp,Z,hle _ _ (A1p hl1),by subst hlp;exact nofun,by subst hlp;rfl,⟨[{target:=.collected r,args:=#[] }],[(3,.pointer (some ⟨bal,0,none⟩)),(4,.pointer (some ⟨bx,0,none⟩)),(1,.pointer (some ⟨bb,0,none⟩))],H.box sa (2 ^ P*2 ^ F) cp++seg⟩,(H.view v lp (2 ^ P*2 ^ F)).set l true (.loop {lp with state:=.exhausted }),?_,rfl,⟨rfl,rfl,rfl,trivial⟩,q1,?_⟩
 ·clear hle q1 q2 hlf hl1 hbok hfit hbr hbl
  have hvr:v r=none:=by rw [A2v (fun e=>hmr e.symm)]at hr0;exact hr0
  have hvl:v l=none:=by rw [A2v (fun e=>hml e.symm)]at hl0;exact hl0
  generalize ({lp with state:=.exhausted }:Loop)=lpx
  generalize hV1:(H.view v lp (2 ^ P*2 ^ F)).set l true (.loop lpx)=V1
  subst hH
  have hVm:V1 m=some (true,mapO wlV (A4i P F (2 ^ P*2 ^ F)) (2 ^ P*2 ^ F)):=by
   rw [←hV1,A2v hml]
   unfold WH.view
   rw [A2v hml,A2v hmr,A5g]
  have hVr:V1 r=some (true,.deferred (some [])):=by
   rw [←hV1,A2v hrl]
   unfold WH.view
   rw [A2v hrl,A5g]
  have hVv:v.Le V1:=fun b y hb=>by
   rw [←hV1,A2v (fun e=>by rw [e,hvl]at hb;cases hb)]
   unfold WH.view
   rw [A2v (fun e=>by rw [e,hvl]at hb;cases hb),A2v (fun e=>by rw [e,hvr]at hb;cases hb),A2v (fun e=>by rw [e,hm0]at hb;cases hb)]
   exact hb
  have hrow:=hS
  rw [List.take_of_length_le (by rw [A3w];exact Nat.le_refl _)]at hrow
  clear hV1 hlp hS hbk
  unfold WH.box
  dsimp only
  dsimp only at hrow
  repeat (first|refine sr ?_|refine qb fun bx=>?_)
  rename_i bca bc bm
  exact join_x hP hF hws hx hwl hm0 hvr hmr hVm hVr hVv hrow
 ·rw [←q2]
  intro b y hb
  unfold View.set at hb⊢
  split
  ·rename_i e;rw [if_pos e]at hb;exact hb
  ·rename_i e;rw [if_neg e]at hb;exact hle _ _ hb
end
end Go.Proofs.YtiolobmgibdfmaaGreat
end
section
namespace Go.Proofs.YtiolobmgibdfmaaGreat
open Go Go.Pal Go.Pal.Vo Go.Conc View
open Go.Proofs.Tryz
set_option maxHeartbeats 4000000
set_option maxRecDepth 20000
section
variable{v:View}
def OwnWs(β:A0j)(x:Value)(l:List Wl):Prop:=∃a cap,x = .slice a l.length cap∧OwnS 102 2 β a l.length cap (wsC l)
abbrev panV(k:Int):Pal.End:=.pan [⟨.iface 141 (.int .i64 k),false,false⟩]
theorem some_x{P F:Nat}{wa:Option Addr}{wc:Nat}{ws:List Wd}(hP:P≤4)(hF:F≤3)(hws:WdsAt v wa ws)(hx:∀x∈ws,Fit x)(hwl:ws.length<2^30) :
  CallsB prog ⟨true,true⟩ 83 #[boV P F wa ws.length wc] (fun e β'=>if A0g P F ws=[]then e=panV 11∧β'=[]else ∃x,e = .ret x∧OwnWs β' x (A0g P F ws)) [] v:=by
 refine A0f tab func83 Z nB (args:=[_]) ?_
 repeat (first|refine st ?_|refine qb fun bx=>?_)
 refine Q_op fun ho=>A0i [] _ ho bod80 Z Z Z Z Z A1n (worlds_x hP hF (hws.le (A0b _ _)) hx hwl) (fun x β' hR=>?_)
 clear ho
 obtain⟨a,cap,rfl,hS⟩:=hR
 rename A0j=>βw
 repeat (first|refine st ?_|refine qb fun bx=>?_)
 refine Q_op fun ho=>A7s [] _ ho Z Z Z Z bod92 (fun _=>rfl) B3d (fun x β' hR=>?_) (fun ch β' hR=>?_)
 ·clear ho
  obtain⟨rfl,hR⟩:=hR
  have hne:A0g P F ws≠[]:=fun e=>by rw [e]at hR;cases hR
  repeat (first|refine st ?_|refine qb fun bx=>?_)
  refine A0l tab βw (by exact .tmp rfl .nil) (Back.here (show Subm βw (βw++[(bx,(boV P F wa ws.length wc).cells,95)])from cntL)) ?_
  rw [if_neg hne]
  exact⟨_,Z,a,cap,Z,hS⟩
 ·obtain⟨rfl,hR⟩:=hR
  have he:A0g P F ws=[]:=by
   cases hw:A0g P F ws with
   | nil=>rfl
   | cons w l=>
    rw [hw,if_pos sM]at hR
    cases hR
  rw [he,if_neg sM]at hR
  injection hR with hR
  subst hR
  refine pn ?_
  refine A1k tab [] (Back.here cntL) ?_
  rw [if_pos he]
  exact⟨Z,Z⟩
end
section
variable{mn:Who}{v:View}
def OwnT(β:A0j)(r:Value)(w:Wl):Prop:=∃β1 β2 x y,r = .agg #[x,y]∧OwnL β1 x (lst w.1)∧OwnL β2 y (lst w.2)∧β=β1++β2
theorem told_x{w:Wl}(h1:w.1<256)(h2:w.2<256):CallsB prog mn 82 #[wlV w] (RetB fun r β'=>OwnT β' r w) [] v:=by
 refine A0f tab func82 Z nB (args:=[_]) ?_
 repeat (first|refine st ?_|refine qb fun bx=>?_)
 refine A2u [2,5,7] [0,1,3,4,2,5,6,7] A1w Z kR ?_
 repeat (first|refine st ?_|refine qb fun bx=>?_)
 refine S_do kR (A0i [] _ Z B3w Z Z Z Z Z A1n (B3i h1) (fun x β' hR=>⟨Le.refl _,?_,?_⟩))
 ·exact kp
 obtain⟨a1,cap1,rfl,hS1⟩:=hR
 rename A0j=>β1
 repeat (first|refine st ?_|refine qb fun bx=>?_)
 refine S_do kR (A0i [] _ Z B3w Z Z Z Z Z A1n (B3i h2) (fun x β' hR=>⟨Le.refl _,?_,?_⟩))
 ·exact kp
 obtain⟨a2,cap2,rfl,hS2⟩:=hR
 rename A0j=>β2
 repeat (first|refine st ?_|refine qb fun bx=>?_)
 refine A0l tab (xs:=[.agg #[.slice a1 (lst w.1).length cap1,.slice a2 (lst w.2).length cap2]]) (β1++β2) (by exact .cell rfl (InB.app (InB.app .head)) Z .nil) (Back.here cntL) ?_
 exact⟨β1,β2,_,_,Z,⟨a1,cap1,Z,hS1⟩,⟨a2,cap2,Z,hS2⟩,Z⟩
end
end Go.Proofs.YtiolobmgibdfmaaGreat
end
section
namespace Go.Pal.Vo
theorem clr_bits:(List.range 256).all (fun g=>(List.range 8).all fun n=>(List.range 8).all fun m=>bit (clr g n) m==(bit g m&&m != n)&&decide (clr g n<256))=true:=by decide +kernel
theorem bit_clr{g n m:Nat}(hg:g<256)(hn:n<8)(hm:m<8):bit (clr g n) m=(bit g m&&m != n)∧clr g n<256:=by
 have:=List.all_eq_true.1 (List.all_eq_true.1 (List.all_eq_true.1 clr_bits _ (List.mem_range.2 hg)) _ (List.mem_range.2 hn)) _ (List.mem_range.2 hm)
 simpa using this
theorem ones_bits:(List.range 9).all (fun P=>(List.range 8).all fun m=>bit (2 ^ P-1) m==decide (m<P))=true:=by decide +kernel
theorem bit_ones{P m:Nat}(hP:P≤8)(hm:m<8):bit (2 ^ P-1) m=decide (m<P):=by
 have:=List.all_eq_true.1 (List.all_eq_true.1 ones_bits _ (List.mem_range.2 (show P<9 by omega))) _ (List.mem_range.2 hm)
 simpa using this
theorem bit_ext{g h:Nat}(hg:g<256)(hh:h<256)(he:∀m,m<8→bit g m=bit h m):g=h:=by
 refine lst_inj g h hg hh ?_
 unfold lst
 exact List.filter_congr fun x hx=>he x (List.mem_range.1 hx)
def allOf(P:Nat)(ws:List Wd)(w:Wl)(p:Nat):Bool:=ws.all fun x=>x.who.toNat != p||A4h P x w
theorem honest_go{P:Nat}{w:Wl}{p:Nat}(hp:p<8):∀(ws:List Wd) (g:Nat),(∀x∈ws,x.who.toNat<8)→g<256→
  bit (ws.foldl (fun g x=>if A4h P x w then g else clr g x.who.toNat) g) p=(bit g p&&allOf P ws w p)∧ws.foldl (fun g x=>if A4h P x w then g else clr g x.who.toNat) g<256
 | [],g,_,hg=>by simp [allOf,hg]
 | x::ws,g,hx,hg=>by
  have h8:=hx x (List.mem_cons_self ..)
  have ih:=fun g=>honest_go hp (P:=P) (w:=w) ws g (fun y hy=>hx y (List.mem_cons_of_mem _ hy))
  simp only [List.foldl_cons]
  cases hh:A4h P x w with
  | true=>
   have:=ih g hg
   simp only [if_true]
   refine⟨?_,this.2⟩
   rw [this.1]
   simp [allOf,hh]
  | false=>
   obtain⟨h1,h2⟩:=bit_clr hg h8 hp
   have:=ih _ h2
   simp only [Bool.false_eq_true,if_false]
   refine⟨?_,this.2⟩
   rw [this.1,h1]
   simp only [allOf,List.all_cons,hh,Bool.or_false]
   by_cases e:x.who.toNat=p
   ·simp [e]
   ·have e1:(p != x.who.toNat)=true:=bne_iff_ne.2 fun h=>e h.symm
    have e2:(x.who.toNat != p)=true:=bne_iff_ne.2 e
    rw [e1,e2,Bool.and_true,Bool.true_and]
theorem B1m{P:Nat}{ws:List Wd}{w:Wl}{p:Nat}(hP:P≤8)(hp:p<8)(hx:∀x∈ws,x.who.toNat<8):bit (B1s P ws w) p=(decide (p<P)&&allOf P ws w p)∧B1s P ws w<256:=by
 have h256:2 ^ P-1<256:=by have:2 ^ P≤2^8:=Nat.pow_le_pow_right dM hP;omega
 have:=honest_go (P:=P) (w:=w) hp ws _ hx h256
 refine⟨?_,this.2⟩
 unfold B1s
 rw [this.1,bit_ones hP hp]
theorem big_bits:(List.range 9).all (fun P=>(List.range (2 ^ P)).all fun g=>(List.range 8).all fun m=>decide (m<P) || !bit g m)=true:=by decide +kernel
theorem bit_big{P g m:Nat}(hP:P≤8)(hg:g<2 ^ P)(hm:m<8)(h:¬m<P):bit g m=false:=by
 have:=List.all_eq_true.1 (List.all_eq_true.1 (List.all_eq_true.1 big_bits _ (List.mem_range.2 (show P<9 by omega))) _ (List.mem_range.2 hg)) _ (List.mem_range.2 hm)
 simpa [h]using this
theorem A6z{P F:Nat}{ws:List Wd}{w:Wl}(hP:P≤8)(hx:∀x∈ws,x.who.toNat<8):w∈A0g P F ws↔(w.1<2 ^ P∧w.2<2 ^ F)∧∀p,p<P→bit w.1 p=allOf P ws w p:=by
 rw [worldsL_mem]
 refine and_congr_right fun⟨h1,_⟩=>?_
 have h256:w.1<256:=Nat.lt_of_lt_of_le h1 (Nat.pow_le_pow_right dM hP)
 constructor
 ·intro h p hp
  have:=(B1m (w:=w) hP (show p<8 by omega) hx).1
  rw [h]at this
  rw [this];simp [hp]
 ·intro h
  refine bit_ext (B1m (w:=w) (p:=0) hP dM hx).2 h256 fun m hm=>?_
  rw [(B1m (w:=w) hP hm hx).1]
  by_cases hmp:m<P
  ·simp [hmp,h m hmp]
  ·simp [hmp,bit_big hP h1 hm hmp]
def verd(l:List Wl)(p:Wl→Bool):Int:=if l.countP p=0 then 2 else if l.countP p=l.length then 1 else 3
theorem A9w{l:List Wl}{p:Wl→Bool}(hl:l≠[]):verd l p=1↔∀w∈l,p w=true:=by
 have hpos:0<l.length:=List.length_pos_iff.2 hl
 unfold verd
 constructor
 ·intro h
  by_cases h0:l.countP p=0
  ·rw [if_pos h0]at h;cases h
  ·rw [if_neg h0]at h
   by_cases h1:l.countP p=l.length
   ·exact List.countP_eq_length.1 h1
   ·rw [if_neg h1]at h;cases h
 ·intro h
  have h1:l.countP p=l.length:=List.countP_eq_length.2 h
  rw [if_neg oM,if_pos h1]
theorem mute{P F:Nat}{ws:List Wd}{p:Nat}(hP:P≤8)(hx:∀x∈ws,x.who.toNat<8)(hp:p<P)(hn:A0g P F ws≠[]) :
  verd (A0g P F ws) (fun w=>bit w.1 p)=1↔∀x∈ws,x.who.toNat=p→verd (A0g P F ws) (A4h P x)=1:=by
 rw [A9w hn]
 constructor
 ·intro h x hxm hwho
  rw [A9w hn]
  intro w hw
  have h1:=((A6z hP hx).1 hw).2 p hp
  rw [h w hw]at h1
  have h2:=List.all_eq_true.1 h1.symm x hxm
  simpa [hwho]using h2
 ·intro h w hw
  rw [((A6z hP hx).1 hw).2 p hp]
  refine List.all_eq_true.2 fun x hxm=>?_
  by_cases hwho:x.who.toNat=p
  ·have:=(A9w hn).1 (h x hxm hwho) w hw
   simp [this]
  ·simp [hwho]
theorem only{P F:Nat}{ws:List Wd}{y:Wd}{w:Wl}(hP:P≤8)(hx:∀x∈y::ws,x.who.toNat<8)(hb:y.who.toNat<P)(hno:∀x∈ws,x.who.toNat≠y.who.toNat)(hw:w∈A0g P F (y::ws)):bit w.1 y.who.toNat=A4h P y w:=by
 rw [((A6z hP hx).1 hw).2 _ hb]
 unfold allOf
 rw [List.all_cons]
 have:ws.all (fun x=>x.who.toNat != y.who.toNat||A4h P x w)=true:=List.all_eq_true.2 fun x hxm=>by simp [hno x hxm]
 rw [this];simp
end Go.Pal.Vo
end
section
namespace Go.Proofs.YtiolobmgibdfmaaGreat
open Go Go.Pal Go.Pal.Vo Go.Conc View
open Go.Proofs.Tryz
set_option maxHeartbeats 4000000
set_option maxRecDepth 20000
section
variable{mn:Who}{v:View}{a:Option Addr}{cap:Nat}
theorem personF_x{w:Wl}{p:Nat}{b:Nat}{q:Bool}{e:TypeId}{f:Nat×Nat}(h1:w.1<256)(hp:p<8)(hv:v b=some (q,.cells #[.int .i64 p] e f)):Ret1 prog mn 103 [wlV w,.pointer (some ⟨b,0,none⟩)] (.bool (bit w.1 p)) v:=by
 refine A0f tab func103 Z nB (args:=[_,_]) ?_
 repeat (first|refine st ?_|refine qb fun bx=>?_)
 refine A2p tab Z Z Z hv (x:=.int .i64 p) Z ?_
 repeat (first|refine st ?_|refine qb fun bx=>?_)
 refine Q_op fun ho=>A0s ho A9n Z Z Z Z Z (A9l h1 hp) ?_
 clear ho
 repeat (first|refine st ?_|refine qb fun bx=>?_)
 refine A0l tab [] (by exact .tmp rfl .nil) (Back.here cntL) ?_
 exact⟨Z,Z⟩
theorem verdict_x{l:List Wl}{p:Wl→Bool}{k:FuncId}{captured:Array Value}(hrow:RowAt v a (wsC l))(hlen:l.length<2^30)(hk:A0n prog k)
  (hf:∀w∈l,∀u,v.Le u→Ret1 prog mn k (wlV w::captured.toList) (.bool (p w)) u):Ret1 prog mn 101 [.slice a l.length cap,.func (.func k) #[] captured] (.int .i64 (verd l p)) v:=by
 refine A0f tab func101 Z nB (args:=[_,_]) ?_
 repeat (first|refine st ?_|refine qb fun bx=>?_)
 refine A1o (α:=Nat×Nat) (fun z=>⟨[],[(10,.int .i64 z.1),(9,.int .i64 l.length),(8,.slice a l.length cap),(5,.int .i64 z.2),(0,.slice a l.length cap),(1,.func (.func k) #[] captured)],[]⟩)
  (fun z u=>u=v∧z.1≤l.length∧z.2=(l.take z.1).countP p) (fun z=>l.length-z.1) (0,0) ⟨Z,rg,cntL⟩ (Le.refl _) ⟨Z,Nat.zero_le _,Z⟩ ?_
 rintro⟨i,m⟩ u ⟨rfl,hi,hm⟩
 simp only at hi hm
 have hcl:m≤l.length:=by rw [hm];exact Nat.le_trans List.countP_le_length (by rw [List.length_take];omega)
 dsimp only
 repeat (first|refine st ?_|refine qb fun bx=>?_)
 refine A0t Z (fun h=>?_) (fun h=>?_)
 ·replace h:=fa h
  have hlt:i<l.length:=oM
  obtain⟨b,off,q,c,e,f,rfl,hv,hc⟩:=A9r hrow hlt
  repeat (first|refine st ?_|refine qb fun bx=>?_)
  refine A2t tab i Z Z Z Z Z Z Z hlt ?_
  refine A2p tab Z Z Z hv (A2d tab Z Z Z (hc i hlt)) ?_
  repeat (first|refine st ?_|refine qb fun bx=>?_)
  refine Q_op fun ho=>A0s ho hk Z Z Z Z (List.nil_append _) (hf l[i] (List.getElem_mem hlt) _ (Le.refl _)) ?_
  clear ho
  have hst:(l.take (i+1)).countP p=m+(if p l[i]then 1 else 0):=by
   rw [List.take_succ_eq_append_getElem hlt,List.countP_append,hm];simp [List.countP_cons]
  cases hp:p l[i]with
  | true=>
   rw [hp]at hst
   repeat (first|refine st ?_|refine qb fun bx=>?_)
   refine A0c ⟨(i+1,m+1),u,by simp only;omega,⟨Z,rg,cntL⟩,Le.refl _,Z,hlt,hst.symm⟩
  | false=>
   rw [hp]at hst
   repeat (first|refine st ?_|refine qb fun bx=>?_)
   refine A0c ⟨(i+1,m),u,by simp only;omega,⟨Z,rg,cntL⟩,Le.refl _,Z,hlt,hst.symm⟩
 ·replace h:=fa h
  have hin:i=l.length:=oM
  subst hin
  rw [List.take_length]at hm
  clear h
  unfold verd
  rw [←hm]
  repeat (first|refine st ?_|refine qb fun bx=>?_)
  refine A0t Z (fun h=>?_) (fun h=>?_)
  ·replace h:=fa h
   have h':m=0:=oM
   rw [if_pos h']
   repeat (first|refine st ?_|refine qb fun bx=>?_)
   refine A0l tab [] (by exact .tmp rfl .nil) (Back.here cntL) ?_
   exact⟨Z,Z⟩
  ·replace h:=fa h
   have h':¬m=0:=oM
   rw [if_neg h']
   clear h
   repeat (first|refine st ?_|refine qb fun bx=>?_)
   refine A0t Z (fun h=>?_) (fun h=>?_)
   ·replace h:=fa h
    have h2:m=l.length:=oM
    rw [if_pos h2]
    repeat (first|refine st ?_|refine qb fun bx=>?_)
    refine A0l tab [] (by exact .tmp rfl .nil) (Back.here cntL) ?_
    exact⟨Z,Z⟩
   ·replace h:=fa h
    have h2:¬m=l.length:=oM
    rw [if_neg h2]
    repeat (first|refine st ?_|refine qb fun bx=>?_)
    refine A0l tab [] (by exact .tmp rfl .nil) (Back.here cntL) ?_
    exact⟨Z,Z⟩
end
section
variable{mn:Who}{v:View}{P F:Nat}{a:Option Addr}{n cap:Nat}
abbrev NeedR(b:Bool)(k:Int):Pal.End→A0j→Prop:=fun e β'=>β'=[]∧e=if b then .ret (.tuple #[])else panV k
theorem person_x{x:Int}(hP:P<2^30):CallsB prog mn 100 #[boV P F a n cap,.int .i64 x] (NeedR (decide (0≤x∧x≤(P:Int)-1)) 3) [] v:=by
 refine A0f tab func100 Z nB (args:=[_,_]) ?_
 repeat (first|refine st ?_|refine qb fun bx=>?_)
 refine Q_op fun ho=>A0s ho A6b Z Z Z Z Z A3k ?_
 clear ho
 refine Q_op fun ho=>A7s [] _ ho Z Z Z Z bod92 (fun _=>rfl) B3d (fun y β' hR=>?_) (fun ch β' hR=>?_)
 ·clear ho
  obtain⟨rfl,hR⟩:=hR
  repeat (first|refine st ?_|refine qb fun bx=>?_)
  refine A1t tab [] .nil (Back.here fun p=>Nat.zero_le _) ⟨Z,?_⟩
  cases hd:decide (0≤x∧x≤(P:Int)-1)with
  | true=>rfl
  | false=>rw [hd]at hR;cases hR
 ·obtain⟨rfl,hR⟩:=hR
  refine pn ?_
  refine A1k tab [] (Back.here fun p=>Nat.zero_le _) ⟨Z,?_⟩
  rw [←hR]
theorem fact_x{x:Int}(hF:F<2^30):CallsB prog mn 94 #[boV P F a n cap,.int .i64 x] (NeedR (decide (0≤x∧x≤(F:Int)-1)) 3) [] v:=by
 refine A0f tab func94 Z nB (args:=[_,_]) ?_
 repeat (first|refine st ?_|refine qb fun bx=>?_)
 refine Q_op fun ho=>A0s ho A6b Z Z Z Z Z A3k ?_
 clear ho
 refine Q_op fun ho=>A7s [] _ ho Z Z Z Z bod92 (fun _=>rfl) B3d (fun y β' hR=>?_) (fun ch β' hR=>?_)
 ·clear ho
  obtain⟨rfl,hR⟩:=hR
  repeat (first|refine st ?_|refine qb fun bx=>?_)
  refine A1t tab [] .nil (Back.here fun p=>Nat.zero_le _) ⟨Z,?_⟩
  cases hd:decide (0≤x∧x≤(F:Int)-1)with
  | true=>rfl
  | false=>rw [hd]at hR;cases hR
 ·obtain⟨rfl,hR⟩:=hR
  refine pn ?_
  refine A1k tab [] (Back.here fun p=>Nat.zero_le _) ⟨Z,?_⟩
  rw [←hR]
end
end Go.Proofs.YtiolobmgibdfmaaGreat
end
