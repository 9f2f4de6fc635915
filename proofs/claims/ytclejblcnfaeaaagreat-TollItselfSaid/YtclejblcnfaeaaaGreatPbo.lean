/- Part 41. -/
import Derived.Test.YtclejblcnfaeaaaGreatPbn
set_option linter.all false
section
namespace Go.Proofs.YtclejblcnfaeaaaGreat
open Go Go.Pal Go.Pal.To Go.Conc View
open Go.Proofs.Tryz
set_option maxHeartbeats 4000000
set_option maxRecDepth 20000
theorem putV_mo{P:Int}{a:Option Addr}{n c:Nat}:(putV (Value.agg (List.toArray [.int .i64 0,.slice none 0 0])).cells.toList 0 (moV P a n c).cells.toList).toArray=(moV P a n c).cells:=rfl
theorem itself_run{v:View}{a0:Option Addr}{cap0:Nat}{ns:List Int}(hns:RowAt v a0 (ns.map (.int .i64))):Run prog ⟨true,true⟩ (AtTop 6 2) v (G (Frame.enter prog 6 (List.toArray [.slice a0 ns.length cap0]) .normal) []):=by
 refine top_run func6 Y nB ?_
 repeat (first|refine st ?_|refine qb fun bx=>?_)
 refine Q_op fun ho=>A0k [] _ ho bod18 Y Y Y Y Y A7q (newBag_x) (fun x β' hR=>?_)
 clear ho
 obtain⟨bg,rfl,hB⟩:=hR
 repeat (first|refine st ?_|refine qb fun bx=>?_)
 refine Q_op fun ho=>A0k β' [] ho bod19 Y Y Y Y Y cntA (mornOf_z (hns.le (A0e _ _)) hB dM) (fun x β' hR=>?_)
 clear ho
 obtain⟨P,d,aD,cD,n1,βb,seg,rfl,rfl,hB1,hn1,hS,hM,hP2⟩:=hR
 refine A7n (β1:=seg) (β2:=βb) cntA (fun hbk=>?_)
 have rD:=RowAt.own hbk (by exact cntL) hS
 replace hns:=hns.le (A0e v (A0c seg))
 clear hbk
 generalize v.union (A0c seg)=v1 at *
 clear hS
 repeat (first|refine st ?_|refine qb fun bx=>?_)
 obtain⟨b4,rfl⟩:∃x:Nat,x=bx:=⟨bx,rfl⟩
 rw [putV_mo]
 refine Q_op fun ho=>A0k βb [(b4,(moV P aD d.length cD).cells,24)] ho bod42 Y Y Y Y Y cntA (bookOf_z (g:=Bg.mk bg a0 cap0 ns) (N:=4) (RowAt.le hns (A0e _ _)) hB1 oM (rD.le (A0e _ _)) hM hP2 dM) (fun x β' hR=>?_)
 clear ho
 obtain⟨l,aA,cA,n2,βb2,seg2,rfl,rfl,hB2,hn2,hS2,hl4,hacts⟩:=hR
 refine A7n (β1:=seg2) (β2:=(b4,(moV P aD d.length cD).cells,24)::βb2) cntA (fun hbk=>?_)
 have rA:ActsAt _ aA l:=RowAt.own hbk (by exact cntL) hS2
 replace rD:=rD.le (A0e v1 (A0c seg2))
 clear hbk hns
 generalize v1.union (A0c seg2)=v2 at *
 clear hS2 hB2
 have rN:∀u:View,ActsAt u none []:=fun u=>.inl Y
 have hOk:HOk P d l:=⟨hM,oM,hacts⟩
 have hL0:LOk P d l l:=⟨hM,hl4,hl4,hacts,hacts⟩
 have hL1:LOk P d l []:=⟨hM,hl4,by simp,hacts,by simp⟩
 have hL2:LOk P d [] l:=⟨hM,by simp,hl4,by simp,hacts⟩
 repeat (first|refine st ?_|refine qb fun bx=>?_)
 refine Q_op fun ho=>A1o ho bod43 Y Y Y Y Y (right_x (cD:=cD) (cA:=cA) rD rA hOk) (fun x w hl hx=>?_)
 clear ho
 replace rD:=rD.le hl
 replace rA:=rA.le hl
 clear hl
 obtain⟨aR,cR,rfl,rR⟩:=hx
 clear rR
 repeat (first|refine st ?_|refine qb fun bx=>?_)
 cases hk:okL d l with
 | false=>
  refine Q_op fun ho=>A1o ho bod34 Y Y Y Y Y (join_x (cD:=cD) (cA:=cA) (cB:=cA) (P:=P) rD (by have:=hM.len;omega) rA rA oM oM) (fun x w hl hx=>?_)
  clear ho
  replace rD:=rD.le hl
  replace rA:=rA.le hl
  clear hl
  obtain⟨a1,c1,a2,c2,rfl,_,_⟩:=hx
  repeat (first|refine st ?_|refine qb fun bx=>?_)
  refine Q_op fun ho=>A1o ho bod34 Y Y Y Y Y (join_void (P:=P) (a:=l) (b:=[]) (cD:=cD) (cA:=cA) (cB:=0) rD rA (rN _) hL1 (bests_not1 hk)) (fun x w hl hx=>?_)
  clear ho
  replace rD:=rD.le hl
  replace rA:=rA.le hl
  clear hl
  obtain⟨a3,c3,a4,c4,rfl⟩:=hx
  repeat (first|refine st ?_|refine qb fun bx=>?_)
  refine Q_op fun ho=>A1o ho bod34 Y Y Y Y Y (join_void (P:=P) (a:=[]) (b:=l) (cD:=cD) (cA:=0) (cB:=cA) rD (rN _) rA hL2 (bests_not2 hk)) (fun x w hl hx=>?_)
  clear ho
  replace rD:=rD.le hl
  replace rA:=rA.le hl
  clear hl
  obtain⟨a5,c5,a6,c6,rfl⟩:=hx
  repeat (first|refine st ?_|refine qb fun bx=>?_)
  refine Q_op fun ho=>A0y ho bod17 Y Y Y Y Y held_x ?_
  clear ho
  repeat (first|refine st ?_|refine qb fun bx=>?_)
  exact⟨Y,Y,Y⟩
 | true=>
  refine Q_op fun ho=>A1o ho bod34 Y Y Y Y Y (join_one (P:=P) (a:=l) (b:=l) (cD:=cD) (cA:=cA) (cB:=cA) rD rA rA hL0 (B3t hk)) (fun x w hl hx=>?_)
  clear ho
  replace rD:=rD.le hl
  replace rA:=rA.le hl
  clear hl
  dsimp only at hx
  rw [A2x]at hx
  obtain⟨a1,c1,a2,c2,rfl,r1,m1⟩:=hx
  repeat (first|refine st ?_|refine qb fun bx=>?_)
  refine Q_op fun ho=>A1o ho bod34 Y Y Y Y Y (join_one (P:=P) (a:=l) (b:=[]) (cD:=cD) (cA:=cA) (cB:=0) rD rA (rN _) hL1 (bests_alone1 hk)) (fun x w hl hx=>?_)
  clear ho
  replace rD:=rD.le hl
  replace rA:=rA.le hl
  replace r1:=r1.le hl
  replace m1:=m1.le hl
  clear hl
  dsimp only at hx
  rw [A2x]at hx
  obtain⟨a3,c3,a4,c4,rfl,r2,m2⟩:=hx
  repeat (first|refine st ?_|refine qb fun bx=>?_)
  refine Q_op fun ho=>A1o ho bod34 Y Y Y Y Y (join_one (P:=P) (a:=[]) (b:=l) (cD:=cD) (cA:=0) (cB:=cA) rD (rN _) rA hL2 (bests_alone2 hk)) (fun x w hl hx=>?_)
  clear ho
  replace rD:=rD.le hl
  replace rA:=rA.le hl
  replace r1:=r1.le hl
  replace m1:=m1.le hl
  replace r2:=r2.le hl
  replace m2:=m2.le hl
  clear hl
  dsimp only at hx
  rw [A2x]at hx
  obtain⟨a5,c5,a6,c6,rfl,r3,m3⟩:=hx
  repeat (first|refine st ?_|refine qb fun bx=>?_)
  refine Q_op fun ho=>A0y ho bod36 Y Y Y Y Y (show Ret1 _ _ _ _ (.tuple (List.toArray [intV 1,natV l.length,intV 0])) _ from by have:=count_one (P:=P) (a:=l) (b:=l) (cD:=cD) (cA:=cA) (cB:=cA) rD rA rA hL0 (B3t hk);rwa [A2x]at this) ?_
  clear ho
  repeat (first|refine st ?_|refine qb fun bx=>?_)
  rw [show((l.length:Int) != (l.length:Int))=false from by simp]
  repeat (first|refine st ?_|refine qb fun bx=>?_)
  refine Q_op fun ho=>A0y ho bod38 Y Y Y Y Y (A4k (A6x (cA:=_) (cB:=_) r1 rA oM oM)) ?_
  clear ho
  repeat (first|refine st ?_|refine qb fun bx=>?_)
  refine Q_op fun ho=>A0y ho bod38 Y Y Y Y Y (A4k (A6x (cA:=_) (cB:=_) r2 rA oM oM)) ?_
  clear ho
  repeat (first|refine st ?_|refine qb fun bx=>?_)
  refine Q_op fun ho=>A0y ho bod38 Y Y Y Y Y (A4k (A6x (cA:=_) (cB:=_) r3 rA oM oM)) ?_
  clear ho
  repeat (first|refine st ?_|refine qb fun bx=>?_)
  repeat (first|refine st ?_|refine qb fun bx=>?_)
  try rw [show((l.length:Int) != (l.length:Int))=false from by simp]
  repeat (first|refine st ?_|refine qb fun bx=>?_)
  try rw [show((l.length:Int) != (l.length:Int))=false from by simp]
  repeat (first|refine st ?_|refine qb fun bx=>?_)
  try rw [show((l.length:Int) != (l.length:Int))=false from by simp]
  repeat (first|refine st ?_|refine qb fun bx=>?_)
  clear r1 r2 r3
  refine A1l (α:=Nat) (fun i=>⟨[],[(21,.int .i64 i),(5,.slice aA l.length cA),(10,.slice a2 l.length c2),(13,.slice a4 l.length c4),(16,.slice a6 l.length c6)],[]⟩)
   (fun i u=>u=w∧i≤l.length) (fun i=>l.length-i) 0 ⟨Y,rg,cntL⟩ (Le.refl _) ⟨Y,Nat.zero_le _⟩ ?_
  rintro i u ⟨rfl,hi⟩
  repeat (first|refine st ?_|refine qb fun bx=>?_)
  refine A1j Y (fun h=>?_) (fun h=>?_)
  ·replace h:=fa h
   have hlt:i<l.length:=oM
   obtain⟨b1,o1,p1,k1,e1,f1,rfl,hv1,hc1⟩:=m1.get (i:=i) (by rw [A2x];exact hlt)
   obtain⟨b2,o2,p2,k2,e2,f2,rfl,hv2,hc2⟩:=m2.get (i:=i) (by rw [A2x];exact hlt)
   obtain⟨b3,o3,p3,k3,e3,f3,rfl,hv3,hc3⟩:=m3.get (i:=i) (by rw [A2x];exact hlt)
   replace hc1:=hc1 i (by rw [A2x];exact hlt)
   replace hc2:=hc2 i (by rw [A2x];exact hlt)
   replace hc3:=hc3 i (by rw [A2x];exact hlt)
   rw [marksOf_get]at hc1 hc2 hc3
   repeat (first|refine st ?_|refine qb fun bx=>?_)
   refine A4p tab i Y Y Y Y Y Y Y hlt ?_
   refine A2d tab Y Y Y hv1 (A0n tab Y Y Y (by rw [Nat.mul_one];exact hc1)) ?_
   repeat (first|refine st ?_|refine qb fun bx=>?_)
   refine A4p tab i Y Y Y Y Y Y Y hlt ?_
   refine A2d tab Y Y Y hv2 (A0n tab Y Y Y (by rw [Nat.mul_one];exact hc2)) ?_
   repeat (first|refine st ?_|refine qb fun bx=>?_)
   refine A4p tab i Y Y Y Y Y Y Y hlt ?_
   refine A2d tab Y Y Y hv3 (A0n tab Y Y Y (by rw [Nat.mul_one];exact hc3)) ?_
   repeat (first|refine st ?_|refine qb fun bx=>?_)
   exact A0a ⟨i+1,_,oM,⟨Y,rg,cntL⟩,Le.refl _,Y,hlt⟩
  ·replace h:=fa h
   repeat (first|refine st ?_|refine qb fun bx=>?_)
   refine Q_op fun ho=>A0y ho bod17 Y Y Y Y Y held_x ?_
   clear ho
   repeat (first|refine st ?_|refine qb fun bx=>?_)
   exact⟨Y,Y,Y⟩
end Go.Proofs.YtclejblcnfaeaaaGreat
end
