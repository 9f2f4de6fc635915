/- 'palfreylaw06.VouchChecks' returns true for all arguments, whatever the goroutines of its calls do, and the arguments read as they did, as its row says it. No condition. -/
import Derived.ChangeSame
import Derived.Deep.Fields
import Derived.Deep.Slices
import Derived.JoinedOf
import Derived.Lib.SmallJoins
import Derived.Test.YtiolobmgibdfmaaGreatQchecksb
set_option linter.all false
section
namespace Go.Proofs.YtiolobmgibdfmaaGreat
open Go Go.Pal Go.Pal.Vo Go.Conc View
open Go.Proofs.Tryz
set_option maxHeartbeats 4000000
set_option maxRecDepth 20000
def spK(z:Vc)(x:Wr):Nat→List (Value×A0j)→Value→A0j→Prop
 | 4,_,y,β=>OwnV β y z.P z.F z.ws
 | 9,_,y,β=>∃a3 c3 a4 c4 β1 β2,y=wldV a3 x.tr.length c3 a4 x.so.length c4∧β=β1++β2∧OwnS 3 1 β1 a3 x.tr.length c3 (x.tr.map (.int .i64))∧OwnS 3 1 β2 a4 x.so.length c4 (x.so.map (.int .i64))
 | 10,_,y,β=>∃b,y = .pointer (some ⟨b,0,none⟩)∧β=[(b,List.toArray [.int .i64 0,.int .i64 0,.slice none 0 0],24)]
 | _,_,y,β=>∃b,y = .pointer (some ⟨b,0,none⟩)∧β=[(b,List.toArray [.slice none 0 0,.slice none 0 0],38)]
def preK:Nat→List Nat:=fun _=>[]
def dstK:Nat→Nat|4=>72|9=>77|10=>15|11=>16|_=>0
section
variable{v:View}
theorem checks_run{y:Vc}{xw:Wd}{ax ay a0:Option Addr}{tx ty ns:List Int}{cx cy cap0:Nat}(hy:WdsAt v y.a y.ws)(htx:RowAt v ax (tx.map (.int .i64)))(hty:RowAt v ay (ty.map (.int .i64)))(hns:RowAt v a0 (ns.map (.int .i64))) :
  Run prog ⟨true,true⟩ (AtTop 17 8) v (G (Frame.enter prog 17 (List.toArray [vcV y,wdV xw,wldV ax tx.length cx ay ty.length cy,.slice a0 ns.length cap0]) .normal) []):=by
 refine top_run func17 Z nB ?_
 repeat (first|refine st ?_|refine qb fun bx=>?_)
 rename_i b4 b5
 obtain⟨b6,rfl⟩:∃b:Nat,b=bx:=⟨bx,rfl⟩
 by_cases hl20:y.ws.length≤20
 rotate_left
 ·rw [show decide ((y.ws.length:Int) > 20)=true from decide_eq_true oM]
  repeat (first|refine st ?_|refine qb fun bx=>?_)
  refine q1 bod21 Z Z Z Z Z A9k ?_
  repeat (first|refine st ?_|refine qb fun bx=>?_)
  exact⟨Z,Z,Z⟩
 rw [show decide ((y.ws.length:Int) > 20)=false from decide_eq_false oM]
 repeat (first|refine st ?_|refine qb fun bx=>?_)
 by_cases hx20:tx.length≤20
 rotate_left
 ·rw [show decide ((tx.length:Int) > 20)=true from decide_eq_true oM]
  repeat (first|refine st ?_|refine qb fun bx=>?_)
  refine q1 bod21 Z Z Z Z Z A9k ?_
  repeat (first|refine st ?_|refine qb fun bx=>?_)
  exact⟨Z,Z,Z⟩
 rw [show decide ((tx.length:Int) > 20)=false from decide_eq_false oM]
 repeat (first|refine st ?_|refine qb fun bx=>?_)
 by_cases hy20:ty.length≤20
 rotate_left
 ·rw [show decide ((ty.length:Int) > 20)=true from decide_eq_true oM]
  repeat (first|refine st ?_|refine qb fun bx=>?_)
  refine q1 bod21 Z Z Z Z Z A9k ?_
  repeat (first|refine st ?_|refine qb fun bx=>?_)
  exact⟨Z,Z,Z⟩
 rw [show decide ((ty.length:Int) > 20)=false from decide_eq_false oM]
 repeat (first|refine st ?_|refine qb fun bx=>?_)
 refine Q_op fun ho=>A0i [] _ ho bod23 Z Z Z Z Z A1n (newBag_x) (fun x β' hR=>?_)
 clear ho
 obtain⟨b,rfl,hB⟩:=hR
 rename A0j=>β1
 repeat (first|refine st ?_|refine qb fun bx=>?_)
 refine A2f (bin:=β1) (by repeat (first|(with_reducible exact A0k)|(with_reducible exact A0u)|(with_reducible exact A1e)|(with_reducible apply A0y))) ?_
 refine Q_op fun ho=>A0i β1 _ ho bod22 Z Z Z Z Z A0k (several_x (g:=⟨b,a0,cap0,ns⟩) (x:=xw) (y:=y) (RowAt.le hns (A0b _ _)) hB dM (hy.le (A0b _ _))) (fun x β' hR=>?_)
 clear ho
 obtain⟨βV,β0,a,c,m,n,Pm,Fm,rfl,hcnt,hB0,hmP,hmF,hokm,hm7,hVc⟩:=hR.mid (rest:=[(b6,(wldV ax tx.length cx ay ty.length cy).cells,38),(b5,(wdV xw).cells,26),(b4,(vcV y).cells,24)]) hy hl20 (fun _=>rfl)
 clear hR hB
 refine A0w (β1:=βV) (β2:=β0++[(b6,(wldV ax tx.length cx ay ty.length cy).cells,38),(b5,(wdV xw).cells,26),(b4,(vcV y).cells,24)]) hcnt (fun hb=>?_)
 have hV:=hVc hb
 replace hns:=RowAt.le hns (A0b v (A0e βV))
 replace htx:=RowAt.le htx (A0b v (A0e βV))
 replace hty:=RowAt.le hty (A0b v (A0e βV))
 clear hVc hcnt
 generalize v.union (A0e βV)=u at hV hns htx hty⊢
 clear hb hy
 obtain⟨bb,off,q,cc,e,f,rfl,hv,hc1⟩:=hV.get (i:=1) (Nat.succ_lt_succ (Nat.succ_pos 1))
 obtain⟨mP,mF,mws,ma,mc⟩:=m
 dsimp only at hmP hmF hokm hm7
 subst hmP
 subst hmF
 replace hc1:off+1*3+3≤cc.size∧cc.extract (off+1*3) (off+1*3+3)=List.toArray [.int .i64 Pm,.int .i64 Fm,.slice ma mws.length mc]:=hc1
 have hp1:=hokm.p1
 have hp4:=hokm.p4
 have hf3:=hokm.f3
 repeat (first|refine st ?_|refine qb fun bx=>?_)
 refine A2t tab 1 Z Z Z Z Z Z Z dM ?_
 refine A2p tab Z Z Z hv (A2d tab Z Z Z hc1) ?_
 refine A2f (bin:=β0) (by repeat (first|(with_reducible exact A0k)|(with_reducible exact A0u)|(with_reducible exact A1e)|(with_reducible apply A0y))) ?_
 refine Q_op fun ho=>A0i β0 _ ho bod55 Z Z Z Z Z A0k (worldOf_x (g:=⟨b,a0,cap0,ns⟩) (P:=Pm) (F:=Fm) (RowAt.le hns (A0b _ _)) hB0 dM hp4 hf3) (fun x β' hR=>?_)
 clear ho
 obtain⟨w,x1,x2,d1,d2,βg,βp,βq,hw1,hw2,rfl,rfl,hBg,hp,hq⟩:=hR
 repeat (first|refine st ?_|refine qb fun bx=>?_)
 obtain⟨bO,rfl⟩:∃b:Nat,b=bx:=⟨bx,rfl⟩
 refine XC_retire (β1:=βp++βq) (β2:=βg++[(bO,#[.slice x1 (lst w.1).length d1,.slice x2 (lst w.2).length d2],38),(b6,(wldV ax tx.length cx ay ty.length cy).cells,38),(b5,(wdV xw).cells,26),(b4,(vcV y).cells,24)]) (show ∀p,Pal.cnt p ((bO,#[.slice x1 (lst w.1).length d1,.slice x2 (lst w.2).length d2],38)::((βg++(βp++βq))++[(b6,(wldV ax tx.length cx ay ty.length cy).cells,38),(b5,(wdV xw).cells,26),(b4,(vcV y).cells,24)]))=Pal.cnt p ((βp++βq)++(βg++[(bO,#[.slice x1 (lst w.1).length d1,.slice x2 (lst w.2).length d2],38),(b6,(wldV ax tx.length cx ay ty.length cy).cells,38),(b5,(wdV xw).cells,26),(b4,(vcV y).cells,24)]))from cntA) (fun hb=>?_)
 have hxp:RowAt (u.union (A0e (βp++βq))) x1 ((lst w.1).map natV):=RowAt.own hb (show Subm βp (βp++βq)from cntL) hp
 have hxq:RowAt (u.union (A0e (βp++βq))) x2 ((lst w.2).map natV):=RowAt.own hb (show Subm βq (βp++βq)from cntL) hq
 have hle:=A0b u (A0e (βp++βq))
 generalize u.union (A0e (βp++βq))=u1 at hxp hxq hle⊢
 replace hV:=hV.le hle
 replace hns:=RowAt.le hns hle
 replace htx:=RowAt.le htx hle
 replace hty:=RowAt.le hty hle
 replace hv:=hle _ _ hv
 clear hb hp hq hle hB0
 have n1:=lst_lenP hp4 hw1
 have n2:=lst_lenP oM hw2
 obtain⟨t,ht⟩:∃t:List Int,t=A7e (lst w.1):=⟨_,rfl⟩
 obtain⟨s,hs⟩:∃s:List Int,s=A7e (lst w.2):=⟨_,rfl⟩
 have e1:(lst w.1).length=t.length:=by rw [ht];unfold A7e;rw [List.length_map]
 have e2:(lst w.2).length=s.length:=by rw [hs];unfold A7e;rw [List.length_map]
 have hxp':RowAt u1 x1 (t.map (.int .i64)):=by rw [ht];unfold A7e;rw [List.map_map];exact hxp
 have hxq':RowAt u1 x2 (s.map (.int .i64)):=by rw [hs];unfold A7e;rw [List.map_map];exact hxq
 rw [e1,e2]
 rw [e1]at n1
 rw [e2]at n2
 clear hxp hxq ht hs e1 e2 hw1 hw2
 refine C_mid (fun σ z=>∃(x3:Wd) (bW:Nat) (cW:Array Value) (bX:Nat) (cX:Array Value),z=u1∧OwnS 26 4 [(bW,cW,26)] (some ⟨bW,0,none⟩) 3 3 ([xw,x3,xw].map wdC).flatten∧OwnS 38 2 [(bX,cX,38)] (some ⟨bX,0,none⟩) 3 3 ([(⟨tx,ty,ax,ay,cx,cy⟩:Wr),⟨t,s,x1,x2,d1,d2⟩,⟨t,s,x1,x2,d1,d2⟩].map wrC).flatten∧
  σ=⟨[],[(13,.slice (some ⟨bX,0,none⟩) 3 3),(12,.slice (some ⟨bW,0,none⟩) 3 3),(10,.slice (some ⟨bb,off,none⟩) 3 c)],[(bW,cW,26),(bX,cX,38)]⟩) ?_ ?_
 rotate_left
 ·refine A2u [6,8,12] [0,1,2,3,4,5,7,9,10,11,6,12,8,13,14] A1w Z kR ?_
  repeat (first|refine st ?_|refine qb fun bx=>?_)
  refine A0v tab 1 Z Z Z kR Z Z Z Z Z dM ?_
  refine A8d tab Z Z Z kR Z hv (A2d tab Z Z Z hc1) ?_
  repeat (first|refine st ?_|refine qb fun bx=>?_)
  refine S_two 12 kR (A0i βg _ Z bod54 Z Z Z Z Z (by repeat (first|(with_reducible exact A0k)|(with_reducible exact A0u)|(with_reducible exact A1e)|(with_reducible apply A0y))) (wordOf_x (g:=⟨b,a0,cap0,ns⟩) (P:=Pm) (F:=Fm) (to:=false) (RowAt.le hns (A0b _ _)) hBg dM hp1 hp4 hf3 (RowAt.le hxp' (A0b _ _)) (RowAt.le hxq' (A0b _ _)) n1 oM) (fun x β' hR=>⟨Le.refl _,?_,?_⟩)) (A3x tab Z Z Z Z Z Z Z Z Z Z (fun bX cX hLX=>⟨Le.refl _,kp,?_⟩))
  ·exact kp
  ·obtain⟨⟨x3,rfl,-⟩,-⟩:=hR
   refine S_two 8 kR (A3x tab Z Z Z Z Z Z Z Z Z Z (fun bX cX hLX=>⟨Le.refl _,kp,?_⟩)) (A3x tab Z Z Z Z Z Z Z Z Z Z (fun bW cW hLW=>⟨Le.refl _,kp,?_⟩))
   ·refine S_do kR (A3x tab Z Z Z Z Z Z Z Z Z Z (fun bW cW hLW=>⟨Le.refl _,kp,?_⟩))
    repeat (first|refine st ?_|refine qb fun bx=>?_)
    exact A0c ⟨_,_,⟨x3,bW,cW,bX,cX,Z,hLW,hLX,Z⟩,⟨Z,rg,cntL⟩,Le.refl _⟩
   ·refine XS_re (todo:=[13,12,14]) ?_ Z
    repeat (first|refine st ?_|refine qb fun bx=>?_)
    refine S_do kR (A3x tab Z Z Z Z Z Z Z Z Z Z (fun bX cX hLX=>⟨Le.refl _,kp,?_⟩))
    repeat (first|refine st ?_|refine qb fun bx=>?_)
    exact A0c ⟨_,_,⟨x3,bW,cW,bX,cX,Z,hLW,hLX,Z⟩,⟨Z,rg,cntL⟩,Le.refl _⟩
  ·refine S_do kR (A0i βg _ Z bod54 Z Z Z Z Z (by repeat (first|(with_reducible exact A0k)|(with_reducible exact A0u)|(with_reducible exact A1e)|(with_reducible apply A0y))) (wordOf_x (g:=⟨b,a0,cap0,ns⟩) (P:=Pm) (F:=Fm) (to:=false) (RowAt.le hns (A0b _ _)) hBg dM hp1 hp4 hf3 (RowAt.le hxp' (A0b _ _)) (RowAt.le hxq' (A0b _ _)) n1 oM) (fun x β' hR=>⟨Le.refl _,?_,?_⟩))
   ·exact kp
   obtain⟨⟨x3,rfl,-⟩,-⟩:=hR
   refine S_do kR (A3x tab Z Z Z Z Z Z Z Z Z Z (fun bW cW hLW=>⟨Le.refl _,kp,?_⟩))
   repeat (first|refine st ?_|refine qb fun bx=>?_)
   exact A0c ⟨_,_,⟨x3,bW,cW,bX,cX,Z,hLW,hLX,Z⟩,⟨Z,rg,cntL⟩,Le.refl _⟩
 rintro σ z ⟨x3,bW,cW,bX,cX,rfl,hL1,hL2,rfl⟩
 refine XC_retire (β1:=[(bW,cW,26),(bX,cX,38)]) (β2:=[]) (fun _=>rfl) (fun hb=>?_)
 have hX:WdsAt (z.union (A0e [(bW,cW,26),(bX,cX,38)])) (some ⟨bW,0,none⟩) [xw,x3,xw]:=RowAt.own hb (show Subm [(bW,cW,26)] [(bW,cW,26),(bX,cX,38)]from cntL) hL1
 have hle:=A0b z (A0e [(bW,cW,26),(bX,cX,38)])
 have hR:WrAt (z.union (A0e [(bW,cW,26),(bX,cX,38)])) (some ⟨bX,0,none⟩) [⟨tx,ty,ax,ay,cx,cy⟩,⟨t,s,x1,x2,d1,d2⟩,⟨t,s,x1,x2,d1,d2⟩]:=⟨RowAt.own hb (show Subm [(bX,cX,38)] [(bW,cW,26),(bX,cX,38)]from cntL) hL2,fun z' hz=>by
  simp only [List.mem_cons,List.mem_nil_iff,or_false]at hz
  rcases hz with rfl|rfl|rfl
  ·exact⟨RowAt.le htx hle,RowAt.le hty hle,hx20,hy20⟩
  ·exact⟨RowAt.le hxp' hle,RowAt.le hxq' hle,by dsimp only;omega,by dsimp only;omega⟩
  ·exact⟨RowAt.le hxp' hle,RowAt.le hxq' hle,by dsimp only;omega,by dsimp only;omega⟩⟩
 replace hV:=hV.le hle
 have hx3:[xw,x3,xw].length=3:=rfl
 have hr3:[(⟨tx,ty,ax,ay,cx,cy⟩:Wr),⟨t,s,x1,x2,d1,d2⟩,⟨t,s,x1,x2,d1,d2⟩].length=3:=rfl
 generalize z.union (A0e [(bW,cW,26),(bX,cX,38)])=u0 at hV hX hR⊢
 generalize hlv:[y,⟨Pm,Fm,mws,ma,mc⟩,n]=l at hV
 have hlv3:l.length=3:=by rw [←hlv];rfl
 generalize [xw,x3,xw]=xl at hX hx3
 generalize [(⟨tx,ty,ax,ay,cx,cy⟩:Wr),⟨t,s,x1,x2,d1,d2⟩,⟨t,s,x1,x2,d1,d2⟩]=rl at hR hr3
 clear hb hL1 hL2 hlv hv hc1 hns htx hty hxp' hxq' hBg hle
 repeat (first|refine st ?_|refine qb fun bx=>?_)
 refine A1o (α:=Nat) (fun i=>⟨[],[(14,.int .i64 i),(13,.slice (some ⟨bX,0,none⟩) 3 3),(12,.slice (some ⟨bW,0,none⟩) 3 3),(10,.slice (some ⟨bb,off,none⟩) 3 c)],[]⟩) (fun i w=>VcAt w (some ⟨bb,off,none⟩) l∧WdsAt w (some ⟨bW,0,none⟩) xl∧WrAt w (some ⟨bX,0,none⟩) rl∧i≤3) (fun i=>3-i) 0 ⟨Z,rg,cntL⟩ (Le.refl _) ⟨hV,hX,hR,Nat.zero_le _⟩ ?_
 clear hV hX hR
 rintro i u ⟨hV,hX,hR,hi⟩
 repeat (first|refine st ?_|refine qb fun bx=>?_)
 refine A0t Z (fun h=>?_) (fun h=>?_)
 ·have hil3:i<3:=by have:=of_decide_eq_true h;omega
  have hil:i<l.length:=oM
  have hix:i<xl.length:=oM
  have hir:i<rl.length:=oM
  clear h
  obtain⟨_,_,q,cc,e,f,hbb,hv,hc1⟩:=hV.get hil
  cases hbb
  obtain⟨_,_,qx,cX,ex,fx,hbx,hvx,hcx⟩:=hX.get hix
  cases hbx
  obtain⟨_,_,qr,cR,er,fr,hbr,hvr,hcr⟩:=hR.get hir
  cases hbr
  have hcx1:=hcx i hix
  obtain⟨hw,hw20⟩:=hV.wd _ (List.getElem_mem hil)
  obtain⟨hr1,hr2,hr20,hs20⟩:=hR.wd _ (List.getElem_mem hir)
  generalize l[i]=z at hc1 hw hw20
  generalize xl[i]=x at hcx1
  generalize rl[i]=r at hcr hr1 hr2 hr20 hs20
  clear hcx
  obtain⟨P,F,ws,wa,wc⟩:=z
  obtain⟨tr,so,q1,q2,k1,k2⟩:=r
  dsimp only at hw hw20 hr1 hr2 hr20 hs20
  replace hc1:off+i*3+3≤cc.size∧cc.extract (off+i*3) (off+i*3+3)=List.toArray [.int .i64 P,.int .i64 F,.slice wa ws.length wc]:=hc1
  replace hcr:0+i*2+2≤cR.size∧cR.extract (0+i*2) (0+i*2+2)=List.toArray [.slice q1 tr.length k1,.slice q2 so.length k2]:=hcr
  repeat (first|refine st ?_|refine qb fun bx=>?_)
  refine A2u [4,9,10,11,12,13] [0,1,2,3,5,6,7,8,4,9,10,11,12,13] A1w Z kR ?_
  repeat (first|refine st ?_|refine qb fun bx=>?_)
  refine A0v tab i Z Z Z kR Z Z Z Z Z hil3 ?_
  refine A8d tab Z Z Z kR Z hv (A2d tab Z Z Z hc1) ?_
  repeat (first|refine st ?_|refine qb fun bx=>?_)
  refine A0v tab i Z Z Z kR Z Z Z Z Z hil3 ?_
  refine A8d tab Z Z Z kR Z hvr (A2d tab Z Z Z hcr) ?_
  refine S_net (Sp:=spK ⟨P,F,ws,wa,wc⟩ ⟨tr,so,q1,q2,k1,k2⟩) (pre:=preK) [4,9,10,11] dstK dM dM (fun i hi=>?_) dM (fun i hi=>?_) (by repeat (first|exact trivial|(refine⟨?_,?_⟩;focus exact ib))) kR (fun j hj zc hc u' hu'=>?_) (fun zc hc=>?_)
  ·simp only [List.mem_cons,List.not_mem_nil,or_false]at hi
   rcases hi with rfl|rfl|rfl|rfl<;>rfl
  ·simp only [List.mem_cons,List.not_mem_nil,or_false]at hi
   rcases hi with rfl|rfl|rfl|rfl<;>exact⟨fun o ho=>by cases ho;rfl,rfl⟩
  ·simp only [List.mem_cons,List.not_mem_nil,or_false]at hj
   rcases hj with rfl|rfl|rfl|rfl
   ·exact A0i [] _ Z bod24 Z Z Z Z Z A1n (ownVouch_x (P:=P) (F:=F) ((hw.le hu').le (A0b _ _)) oM) (fun x β' hR=>⟨Z,_,_,hR,Z⟩)
   ·exact A0i [] _ Z bod65 Z Z Z Z Z A1n (ownWorld_x (RowAt.le (RowAt.le hr1 hu') (A0b _ _)) (RowAt.le (RowAt.le hr2 hu') (A0b _ _)) oM oM) (fun x β' hR=>⟨Z,_,_,hR,Z⟩)
   ·exact A_alloc tab Z Z Z Z (fun b=>⟨Z,_,_,⟨b,Z,Z⟩,Z⟩)
   ·exact A_alloc tab Z Z Z Z (fun b=>⟨Z,_,_,⟨b,Z,Z⟩,Z⟩)
  ·obtain⟨aY,cY,e4,hSY⟩:OwnV (zc 4).2 (zc 4).1 P F ws:=hc 4 dM
   obtain⟨a3,c3,a4,c4,β1,β2,e9,e9',hS1,hS2⟩:spK ⟨P,F,ws,wa,wc⟩ ⟨tr,so,q1,q2,k1,k2⟩ 9 [] (zc 9).1 (zc 9).2:=hc 9 dM
   obtain⟨b15,e10,e10'⟩:spK ⟨P,F,ws,wa,wc⟩ ⟨tr,so,q1,q2,k1,k2⟩ 10 [] (zc 10).1 (zc 10).2:=hc 10 dM
   obtain⟨b16,e11,e11'⟩:spK ⟨P,F,ws,wa,wc⟩ ⟨tr,so,q1,q2,k1,k2⟩ 11 [] (zc 11).1 (zc 11).2:=hc 11 dM
   simp only [netR,netβ,e4,e9,e9',e10,e10',e11,e11']
   generalize (zc 4).2=βY at hSY⊢
   clear e4 e9 e9' e10 e10' e11 e11' hc
   repeat (first|refine st ?_|refine qb fun bx=>?_)
   refine A0w (β1:=βY++(β1++β2)) (β2:=[(b15,#[.int .i64 P,.int .i64 F,.slice aY ws.length cY],24),(b16,#[.slice a3 tr.length c3,.slice a4 so.length c4],38)]) (show ∀p,Pal.cnt p (βY++((β1++β2)++[(b15,#[.int .i64 P,.int .i64 F,.slice aY ws.length cY],24),(b16,#[.slice a3 tr.length c3,.slice a4 so.length c4],38)]))=Pal.cnt p ((βY++(β1++β2))++[(b15,#[.int .i64 P,.int .i64 F,.slice aY ws.length cY],24),(b16,#[.slice a3 tr.length c3,.slice a4 so.length c4],38)])from cntA) (fun hb=>?_)
   have hwY:WdsAt (u.union (A0e (βY++(β1++β2)))) aY ws:=RowAt.own hb (show Subm βY (βY++(β1++β2))from cntL) hSY
   have hrY:RowAt (u.union (A0e (βY++(β1++β2)))) a3 (tr.map (.int .i64)):=RowAt.own hb (show Subm β1 (βY++(β1++β2))from cntL) hS1
   have hsY:RowAt (u.union (A0e (βY++(β1++β2)))) a4 (so.map (.int .i64)):=RowAt.own hb (show Subm β2 (βY++(β1++β2))from cntL) hS2
   have hle0:=A0b u (A0e (βY++(β1++β2)))
   generalize u.union (A0e (βY++(β1++β2)))=u1 at hwY hrY hsY hle0⊢
   replace hV:=hV.le hle0
   replace hX:=hX.le hle0
   replace hR:=hR.le hle0
   replace hw:=hw.le hle0
   replace hr1:=RowAt.le hr1 hle0
   replace hr2:=RowAt.le hr2 hle0
   replace hv:=hle0 _ _ hv
   replace hvx:=hle0 _ _ hvx
   replace hvr:=hle0 _ _ hvr
   clear hb hSY hS1 hS2 hle0
   have hL8:(if errWr P F ws tr so=0 then B4l P.toNat ws tr so else []).length≤8:=by
    split
    ·exact lst_len8 _
    ·exact Nat.zero_le _
   have kW1:=fun {w:View} (h:Le u1 w)=>Wrong_x (v:=w) (wc:=cY) (P:=P) (F:=F) (c1:=c3) (c2:=c4) (hwY.le h) oM (RowAt.le hrY h) (RowAt.le hsY h) oM oM
   have kW2:=fun {w:View} (h:Le u1 w)=>WrongR_x (v:=w) (mn:=⟨true,true⟩) (wc:=wc) (P:=P) (F:=F) (c1:=k1) (c2:=k2) (hw.le h) oM (RowAt.le hr1 h) (RowAt.le hr2 h) oM oM
   generalize (if errWr P F ws tr so=0 then B4l P.toNat ws tr so else [])=L at hL8 kW1 kW2
   generalize errWr P F ws tr so=E at kW1 kW2
   refine Q_op fun ho=>A0i [] _ ho bod56 Z Z Z Z Z A1n (kW1 (A0b _ _)) (fun x β' hR=>?_)
   clear ho
   obtain⟨t1,rfl,a5,c5,rfl,hL1⟩:=hR
   refine A0w (β1:=β') (β2:=[(b15,#[.int .i64 P,.int .i64 F,.slice aY ws.length cY],24),(b16,#[.slice a3 tr.length c3,.slice a4 so.length c4],38)]) (fun _=>rfl) (fun hb=>?_)
   have hn1:RowAt (u1.union (A0e β')) a5 (L.map natV):=RowAt.own hb (show Subm β' β' from cntL) hL1
   have hle0:=A0b u1 (A0e β')
   replace kW2:=fun {w:View} (h:Le (u1.union (A0e β')) w)=>kW2 (hle0.trans h)
   generalize u1.union (A0e β')=u2 at hn1 hle0 kW2⊢
   replace hV:=hV.le hle0
   replace hX:=hX.le hle0
   replace hR:=hR.le hle0
   replace hw:=hw.le hle0
   replace hr1:=RowAt.le hr1 hle0
   replace hr2:=RowAt.le hr2 hle0
   replace hv:=hle0 _ _ hv
   replace hvx:=hle0 _ _ hvx
   replace hvr:=hle0 _ _ hvr
   replace hwY:=hwY.le hle0
   replace hrY:=RowAt.le hrY hle0
   replace hsY:=RowAt.le hsY hle0
   clear hb hL1 hle0 kW1
   repeat (first|refine st ?_|refine qb fun bx=>?_)
   refine A2u [8] [0,1,2,3,4,5,6,7,8,9,10,11,12,13] A1w Z kR ?_
   repeat (first|refine st ?_|refine qb fun bx=>?_)
   refine A0v tab i Z Z Z kR Z Z Z Z Z hil3 ?_
   refine A8d tab Z Z Z kR Z hv (A2d tab Z Z Z hc1) ?_
   repeat (first|refine st ?_|refine qb fun bx=>?_)
   refine A0v tab i Z Z Z kR Z Z Z Z Z hil3 ?_
   refine A8d tab Z Z Z kR Z hvr (A2d tab Z Z Z hcr) ?_
   repeat (first|refine st ?_|refine qb fun bx=>?_)
   refine S_do kR (A0i [] _ Z bod66 Z Z Z Z Z A1n (kW2 (A0b _ _)) (fun x β' hR=>⟨Le.refl _,?_,?_⟩))
   ·exact kp
   obtain⟨t2,rfl,a6,c6,rfl,hL2⟩:=hR
   rename A0j=>β3
   repeat (first|refine st ?_|refine qb fun bx=>?_)
   refine XC_retire (β1:=β3) (β2:=[(b15,#[.int .i64 P,.int .i64 F,.slice aY ws.length cY],24),(b16,#[.slice a3 tr.length c3,.slice a4 so.length c4],38)]) (fun _=>rfl) (fun hb=>?_)
   have hn2:RowAt (u2.union (A0e β3)) a6 (L.map natV):=RowAt.own hb (show Subm β3 β3 from cntL) hL2
   have hle0:=A0b u2 (A0e β3)
   generalize u2.union (A0e β3)=u3 at hn2 hle0⊢
   replace hn1:=RowAt.le hn1 hle0
   replace hV:=hV.le hle0
   replace hX:=hX.le hle0
   replace hR:=hR.le hle0
   replace hw:=hw.le hle0
   replace hr1:=RowAt.le hr1 hle0
   replace hr2:=RowAt.le hr2 hle0
   replace hv:=hle0 _ _ hv
   replace hvx:=hle0 _ _ hvx
   replace hvr:=hle0 _ _ hvr
   replace hwY:=hwY.le hle0
   replace hrY:=RowAt.le hrY hle0
   replace hsY:=RowAt.le hsY hle0
   clear hb hL2 hle0 kW2
   have kC1:=Check_x (v:=u3) (mn:=⟨true,true⟩) (wc:=cY) (P:=P) (F:=F) hwY oM
   have kC2:=CheckR_x (v:=u3) (mn:=⟨true,true⟩) (wc:=wc) (P:=P) (F:=F) hw oM
   have kD1:=CheckWord_x (v:=u3) (mn:=⟨true,true⟩) (wc:=cY) (P:=P) (F:=F) (x:=x) hwY oM
   have kD2:=CheckWordR_x (v:=u3) (mn:=⟨true,true⟩) (wc:=wc) (P:=P) (F:=F) (x:=x) hw oM
   have kN:=A7c (mn:=⟨true,true⟩) (c1:=c5) (c2:=c6) hn1 hn2 oM oM
   rw [decide_eq_true rfl]at kN
   have kS:=sameV_x (v:=u3) (mn:=⟨true,true⟩) (P:=P) (F:=F) (c:=cY) (d:=wc) hwY hw oM
   have kQ:=sameWI_x (v:=u3) (mn:=⟨true,true⟩) (c1:=c3) (c2:=c4) (d1:=k1) (d2:=k2) hrY hsY hr1 hr2 oM oM
   generalize (if A2h P F ws=0 then A2k P.toNat F.toNat x else A2h P F ws)=D at kD1 kD2
   generalize A2h P F ws=C at kC1 kC2
   repeat (first|refine st ?_|refine qb fun bx=>?_)
   refine lexL A1w Z kR ?_
   repeat (first|refine st ?_|refine qb fun bx=>?_)
   refine A3r bod67 Z Z Z Z Z kC1 ?_
   repeat (first|refine st ?_|refine qb fun bx=>?_)
   refine A2i tab i Z Z Z Z Z Z Z hil3 ?_
   refine A9d tab Z Z Z hv (A2d tab Z Z Z hc1) ?_
   refine A3r bod68 Z Z Z Z Z kC2 ?_
   repeat (first|refine st ?_|refine qb fun bx=>?_)
   rw [neI C]
   repeat (first|refine st ?_|refine qb fun bx=>?_)
   refine A2i tab i Z Z Z Z Z Z Z hil3 ?_
   refine A9d tab Z Z Z hvx (A2d tab Z Z Z hcx1) ?_
   refine A3r bod69 Z Z Z Z Z kD1 ?_
   repeat (first|refine st ?_|refine qb fun bx=>?_)
   refine A2i tab i Z Z Z Z Z Z Z hil3 ?_
   refine A9d tab Z Z Z hv (A2d tab Z Z Z hc1) ?_
   repeat (first|refine st ?_|refine qb fun bx=>?_)
   refine A2i tab i Z Z Z Z Z Z Z hil3 ?_
   refine A9d tab Z Z Z hvx (A2d tab Z Z Z hcx1) ?_
   refine A3r bod70 Z Z Z Z Z kD2 ?_
   repeat (first|refine st ?_|refine qb fun bx=>?_)
   rw [neI D]
   repeat (first|refine st ?_|refine qb fun bx=>?_)
   rw [neI E]
   repeat (first|refine st ?_|refine qb fun bx=>?_)
   refine A3r bod35 Z Z Z Z Z kN ?_
   repeat (first|refine st ?_|refine qb fun bx=>?_)
   refine A2i tab i Z Z Z Z Z Z Z hil3 ?_
   refine A9d tab Z Z Z hv (A2d tab Z Z Z hc1) ?_
   refine A3r bod32 Z Z Z Z Z kS ?_
   repeat (first|refine st ?_|refine qb fun bx=>?_)
   refine A2i tab i Z Z Z Z Z Z Z hil3 ?_
   refine A9d tab Z Z Z hvr (A2d tab Z Z Z hcr) ?_
   refine A3r bod31 Z Z Z Z Z kQ ?_
   repeat (first|refine st ?_|refine qb fun bx=>?_)
   exact A0c ⟨i+1,u3,oM,⟨Z,rg,cntL⟩,Le.refl _,hV,hX,hR,hil3⟩
 ·clear h
  repeat (first|refine st ?_|refine qb fun bx=>?_)
  refine q1 bod21 Z Z Z Z Z A9k ?_
  repeat (first|refine st ?_|refine qb fun bx=>?_)
  exact⟨Z,Z,Z⟩
end
end Go.Proofs.YtiolobmgibdfmaaGreat
end
section
namespace Go.Proofs.YtiolobmgibdfmaaGreat
open Go Go.Pal Go.Pal.Vo Go.Conc Go.ConcM Go.RowKit Go.ChangeShapes Go.WideShapes Go.ChangeAt Go.Deep
set_option maxHeartbeats 4000000
set_option maxRecDepth 100000
structure Opened(W:World)(v:View):Prop where
 ag:v.Agree W
 ro:∀b,¬v.Owns b
theorem opened0(W:World):Opened W (fun _=>none):=⟨(fun b p o h=>nomatch (show none=some (p,o)from h)),(fun b h=>by obtain⟨o,h⟩:=h;cases h)⟩
theorem Opened.both{W:World}{u v:View}(hu:Opened W u)(hv:Opened W v):Opened W (u.union v)∧u.Le (u.union v)∧v.Le (u.union v):=by
 have key:∀b,(u.union v) b=u b∨(u.union v) b=v b:=fun b=>by
  unfold View.union
  cases u b with
  | none=>exact .inr rfl
  | some x=>exact .inl rfl
 refine⟨⟨fun b p o h=>?_,fun b h=>?_⟩,(fun b x h=>by unfold View.union;rw [h]),fun b x h=>?_⟩
 ·rcases key b with e|e
  ·exact hu.ag b p o (e ▸ h)
  ·exact hv.ag b p o (e ▸ h)
 ·obtain⟨o,h⟩:=h
  rcases key b with e|e
  ·exact hu.ro b ⟨o,e ▸ h⟩
  ·exact hv.ro b ⟨o,e ▸ h⟩
 ·unfold View.union
  cases hb:u b with
  | none=>exact h
  | some y=>
   obtain⟨p,o⟩:=y
   obtain⟨p',o'⟩:=x
   have e1:=hu.ag b p o hb
   have e2:=hv.ag b p' o' h
   rw [e1]at e2
   cases e2
   have f1:p=false:=by
    cases p with
    | false=>rfl
    | true=>exact absurd ⟨_,hb⟩ (hu.ro b)
   have f2:p'=false:=by
    cases p' with
    | false=>rfl
    | true=>exact absurd ⟨_,h⟩ (hv.ro b)
   rw [f1,f2]
theorem row_view{W:World}{a:Addr}{cs:List Value}(hc:∀(i:Nat) (x:Value),cs[i]?=some x→W.cell? (a.add i)=some x):∃v,Opened W v∧RowAt v (some a) cs:=by
 cases cs with
 | nil=>exact⟨_,opened0 W,.inl rfl⟩
 | cons y l=>
  obtain⟨b,off,spot⟩:=a
  have h00:=hc 0 y Z
  have hspot:spot=none:=by simpa [Addr.add]using World.cell?_spot h00
  subst hspot
  have hc':∀(i:Nat) (x:Value),(y::l)[i]?=some x→W.cell? ⟨b,off+i,none⟩=some x:=fun i x hi=>by
   have:=hc i x hi
   rwa [add_plain]at this
  obtain⟨c,e,f,hO⟩:∃c e f,W.heap[b]?=some (.cells c e f):=by
   have:=hc' 0 y Z
   unfold World.cell? at this
   split at this
   ·rename_i c e f h;exact⟨c,e,f,h⟩
   ·cases this
  have hcc:∀(i:Nat) (x:Value),(y::l)[i]?=some x→c[off+i]?=some x:=fun i x hi=>by
   have:=hc' i x hi
   unfold World.cell? at this
   rw [hO]at this
   simpa using this
  refine⟨fun k=>if k=b then some (false,.cells c e f)else none,⟨fun k p o h=>?_,fun k h=>?_⟩,.inr ⟨b,off,false,c,e,f,Z,if_pos Z,?_,hcc⟩⟩
  ·replace h:(if k=b then some (false,Obj.cells c e f)else none)=some (p,o):=h
   by_cases hk:k=b
   ·subst hk
    rw [if_pos rfl]at h
    cases h
    exact hO
   ·rw [if_neg hk]at h;cases h
  ·obtain⟨o,h⟩:=h
   replace h:(if k=b then some (false,Obj.cells c e f)else none)=some (true,o):=h
   by_cases hk:k=b
   ·rw [if_pos hk]at h;cases h
   ·rw [if_neg hk]at h;cases h
  ·have h1:=hcc l.length ((y::l)[l.length]' sM) (List.getElem?_eq_getElem _)
   have h2:=(Array.getElem?_eq_some_iff.1 h1).1
   simp only [List.length_cons]
   omega
theorem list_of{α:Type}{n:Nat}{p:Nat→α→Prop}(h:∀i,i<n→∃x,p i x):∃l:List α,l.length=n∧∀i (hi:i<l.length),p i l[i]:=by
 induction n with
 | zero=>exact⟨[],rfl,fun i hi=>absurd hi (Nat.not_lt_zero _)⟩
 | succ n ih=>
  obtain⟨l,hl,hp⟩:=ih fun i hi=>h i oM
  obtain⟨x,hx⟩:=h n oM
  refine⟨l++[x],by simp [hl],fun i hi=>?_⟩
  by_cases e:i<l.length
  ·rw [List.getElem_append_left e];exact hp i e
  ·have hi':i=l.length:=by simp at hi;omega
   subst hi'
   simp
   rw [hl];exact hx
theorem wds_at:∀{ws:List Wd} {k:Nat} {y:Value},(ws.map wdC).flatten[k]?=some y→∃(i:Nat) (hi:i<ws.length) (j:Nat),j<4∧k=i*4+j∧(wdC ws[i])[j]?=some y
 | [],k,y,h=>by simp at h
 | x::ws,k,y,h=>by
  rw [List.map_cons,List.flatten_cons]at h
  by_cases hk:k<4
  ·rw [List.getElem?_append_left (by exact hk)]at h
   exact⟨0,by simp,k,hk,oM,h⟩
  ·rw [List.getElem?_append_right (by show 4≤k;omega)]at h
   obtain⟨i,hi,j,hj,e,hx⟩:=wds_at h
   have e':k-4=i*4+j:=e
   exact⟨i+1,by simp;omega,j,hj,oM,by simpa using hx⟩
section
variable{H:Type}{enc:TypeId×Value→H}{P:Program}{w:World}{base:Nat}{spare:Nat→Bool}{held:Bool}
theorem B5j{t e:TypeId}{fs:Array Field}{fuel:Nat}{cs:List Value}{x:DataW H×List MemPlace}(ht:P.underlying t=some (.slice e))(he:P.underlying e=some (.struct fs))
  (hone:oneCellFields P fs=true)(hC:P.cellsOf e=fs.size)(h:DataW.trod enc P w base spare held fuel t cs=some x) :
  (cs=[.slice none 0 0]∧x=(.nil,[]))∨
  ∃ (a:Addr) (len cap m:Nat),cs=[.slice (some a) len cap]∧len≤cap∧m=(if spare a.block then cap else len)∧
   ∀i,i<m→∃n:Nat,∀(j:Nat) (f:Field),fs[j]?=some f→∃(v:Value) (y:DataW H×List MemPlace),w.cell? (a.add (i*fs.size+j))=some v∧DataW.trod enc P w base spare held n f.type [v]=some y:=by
 rcases open_slice ht h with h0|⟨a,len,cap,m,n,D,Pl,hcs,hb,hl,hm,hmm,hx,hi⟩
 ·exact .inl h0
 ·refine .inr ⟨a,len,cap,m,hcs,hl,hmm,fun i him=>?_⟩
  obtain⟨cs',hc,ht'⟩:=hi i him
  rw [hC]at hc
  obtain⟨ys,n',hn',hy,hlen,hyl,hf⟩:=DataW.trod_struct he ht'
  obtain⟨_,hcl,hat⟩:=World.cells?_some hc
  refine⟨n',fun j f hj=>?_⟩
  obtain⟨ho,hk⟩:=hone_of hone j f hj
  have hjl:j<fs.size:=(Array.getElem?_eq_some_iff.1 hj).1
  have hcell:=hat j hjl
  have hv:cs'[j]?=some (cs'[j]' oM):=List.getElem?_eq_getElem oM
  have h1:=hf j f hj
  rw [ho,hk]at h1
  have hone':(cs'.drop j).take 1=[cs'[j]' oM]:=by
   rw [List.drop_eq_getElem_cons oM]
   rfl
  rw [hone']at h1
  have hys:ys[j]?=some (ys[j]' oM):=List.getElem?_eq_getElem oM
  refine⟨_,_,?_,h1.trans hys⟩
  rw [←Go.Deep.add_add,hcell,hv]
end
section
variable{H:Type}{enc:TypeId×Value→H}{W:World}
theorem B5k{fuel:Nat}{c:Value}{x:DataW H×List MemPlace}(h:DataW.trod enc Tryz.prog W 0 (fun _=>true) true fuel 27 [c]=some x):∃(a:Option Addr) (cap:Nat) (ns:List Int) (v:View),c = .slice a ns.length cap∧Opened W v∧RowAt v a (ns.map (.int .i64)):=by
 rcases open_ints Tryz.underlying27 Tryz.underlying3 cells3 h with ⟨hcs,hx⟩|⟨a,len,cap,zs,hcs,_,hl,hm,hz,hx,hcell,hwz⟩
 ·cases hcs
  exact⟨none,0,[],_,Z,opened0 W,.inl Z⟩
 ·cases hcs
  simp only [if_true]at hz
  have hlen:(zs.take len).length=len:=by rw [List.length_take];omega
  obtain⟨v,hv,hr⟩:=row_view (W:=W) (a:=a) (cs:=(zs.take len).map (.int .i64)) fun i x hi=>by
   rw [List.getElem?_map,Option.map_eq_some_iff]at hi
   obtain⟨y,hy,rfl⟩:=hi
   rw [List.getElem?_take]at hy
   split at hy
   ·rw [hcell i oM,List.getD_eq_getElem?_getD,hy];rfl
   ·cases hy
  exact⟨some a,cap,zs.take len,v,by rw [hlen],hv,hr⟩
theorem cells26:Tryz.prog.cellsOf 26=4:=by kernel_rfl
theorem words_view{fuel:Nat}{c:Value}{x:DataW H×List MemPlace}(h:DataW.trod enc Tryz.prog W 0 (fun _=>true) true fuel 22 [c]=some x):∃(a:Option Addr) (cap:Nat) (ws:List Wd) (v:View),c = .slice a ws.length cap∧ws.length≤cap∧Opened W v∧WdsAt v a ws:=by
 rcases B5j Tryz.underlying22 Tryz.underlying26 kR cells26 h with ⟨hcs,hx⟩|⟨a,len,cap,m,hcs,hl,hm,hf⟩
 ·cases hcs
  exact⟨none,0,[],_,Z,Nat.le_refl _,opened0 W,.inl Z⟩
 ·cases hcs
  simp only [if_true]at hm
  subst hm
  obtain⟨ws,hws,hp⟩:=list_of (α:=Wd) (n:=len) (p:=fun i x=>∀(j:Nat) (y:Value),(wdC x)[j]?=some y→W.cell? (a.add (i*4+j))=some y) fun i hi=>by
   obtain⟨n,hj⟩:=hf i oM
   obtain⟨v0,y0,k0,t0⟩:=hj 0 _ rfl
   obtain⟨v1,y1,k1,t1⟩:=hj 1 _ rfl
   obtain⟨v2,y2,k2,t2⟩:=hj 2 _ rfl
   obtain⟨v3,y3,k3,t3⟩:=hj 3 _ rfl
   obtain⟨n0,e0,-,-⟩:=DataW.trod_int Tryz.underlying3 t0
   obtain⟨n1,e1,-,-⟩:=DataW.trod_int Tryz.underlying3 t1
   obtain⟨n2,e2,-,-⟩:=DataW.trod_int Tryz.underlying3 t2
   obtain⟨n3,e3,-,-⟩:=DataW.trod_int Tryz.underlying3 t3
   cases e0
   cases e1
   cases e2
   cases e3
   refine⟨⟨n0,n1,n2,n3⟩,fun j y hy=>?_⟩
   match j,hy with
   | 0,hy=>cases hy;exact k0
   | 1,hy=>cases hy;exact k1
   | 2,hy=>cases hy;exact k2
   | 3,hy=>cases hy;exact k3
   | j+4,hy=>simp at hy
  obtain⟨v,hv,hr⟩:=row_view (W:=W) (a:=a) (cs:=(ws.map wdC).flatten) fun k y hk=>by
   obtain⟨i,hi,j,hj,rfl,hx⟩:=wds_at hk
   exact hp i hi j y hx
  exact⟨some a,m,ws,v,by rw [hws],oM,hv,hr⟩
theorem row24:Tryz.prog.readableRec 24=true:=by kernel_rfl
theorem lt24:24<Tryz.prog.types.size:=of_decide_eq_true kR
theorem row26:Tryz.prog.readableRec 26=true:=by kernel_rfl
theorem lt26:26<Tryz.prog.types.size:=of_decide_eq_true kR
theorem row38:Tryz.prog.readableRec 38=true:=by kernel_rfl
theorem lt38:38<Tryz.prog.types.size:=of_decide_eq_true kR
variable{base:Nat}{v0:Value}{d0:DataW H}{p:List MemPlace}
def Still(enc:TypeId×Value→H)(W:World)(t:TypeId)(v0:Value)(d0:DataW H)(p:List MemPlace):Prop:=∀w':World,Below W.heap.size W w'→DataW.Trod enc Tryz.prog w' 0 (fun b=>decide (b<W.heap.size)) true t v0 d0 p
theorem openV(hval:Value.okWide Tryz.prog W .any base 24 v0)(h0:DataW.Trod enc Tryz.prog W 0 (fun _=>true) true 24 v0 d0 p)(hlt:∀x∈p,x.block<W.heap.size) :
  ∃(P F:Int) (a:Option Addr) (ws:List Wd) (cap:Nat) (v:View),v0=boV P F a ws.length cap∧ws.length≤cap∧Opened W v∧WdsAt v a ws∧Still enc W 24 v0 d0 p:=by
 have hargs:Still enc W 24 v0 d0 p:=fun w' hb=>Below.trod laid row24 lt24 h0 hb hlt
 obtain⟨c0,c1,c2,y0,y1,y2,n,rfl,-,-,t0,t1,t2⟩:=Go.Joins.open_agg3 Tryz.underlying24 kR kR hval h0
 obtain⟨n0,e0,-,-⟩:=DataW.trod_int Tryz.underlying3 t0
 obtain⟨n1,e1,-,-⟩:=DataW.trod_int Tryz.underlying3 t1
 cases e0
 cases e1
 obtain⟨a,cap,ws,v,rfl,h1,h2,h3⟩:=words_view t2
 exact⟨n0,n1,a,ws,cap,v,Z,h1,h2,h3,hargs⟩
theorem openX(hval:Value.okWide Tryz.prog W .any base 26 v0)(h0:DataW.Trod enc Tryz.prog W 0 (fun _=>true) true 26 v0 d0 p)(hlt:∀x∈p,x.block<W.heap.size) :
  ∃x:Wd,v0=wdV x∧Still enc W 26 v0 d0 p:=by
 have hargs:Still enc W 26 v0 d0 p:=fun w' hb=>Below.trod laid row26 lt26 h0 hb hlt
 obtain⟨c0,c1,c2,c3,y0,y1,y2,y3,n,rfl,-,-,t0,t1,t2,t3⟩:=Go.Joins.open_agg4 Tryz.underlying26 kR kR hval h0
 obtain⟨n0,e0,-,-⟩:=DataW.trod_int Tryz.underlying3 t0
 obtain⟨n1,e1,-,-⟩:=DataW.trod_int Tryz.underlying3 t1
 obtain⟨n2,e2,-,-⟩:=DataW.trod_int Tryz.underlying3 t2
 obtain⟨n3,e3,-,-⟩:=DataW.trod_int Tryz.underlying3 t3
 cases e0
 cases e1
 cases e2
 cases e3
 exact⟨⟨n0,n1,n2,n3⟩,Z,hargs⟩
theorem openW(hval:Value.okWide Tryz.prog W .any base 38 v0)(h0:DataW.Trod enc Tryz.prog W 0 (fun _=>true) true 38 v0 d0 p)(hlt:∀x∈p,x.block<W.heap.size) :
  ∃(a1:Option Addr) (tr:List Int) (c1:Nat) (a2:Option Addr) (so:List Int) (c2:Nat) (u v:View),v0=wldV a1 tr.length c1 a2 so.length c2∧Opened W u∧Opened W v∧RowAt u a1 (tr.map (.int .i64))∧RowAt v a2 (so.map (.int .i64))∧Still enc W 38 v0 d0 p:=by
 have hargs:Still enc W 38 v0 d0 p:=fun w' hb=>Below.trod laid row38 lt38 h0 hb hlt
 obtain⟨c0,c1,y0,y1,n,rfl,-,-,t0,t1⟩:=Go.Joins.open_agg2 Tryz.underlying38 kR kR hval h0
 obtain⟨a1,k1,tr,u,rfl,h1,h2⟩:=B5k t0
 obtain⟨a2,k2,so,v,rfl,h3,h4⟩:=B5k t1
 exact⟨a1,tr,k1,a2,so,k2,u,v,Z,h1,h3,h2,h4,hargs⟩
theorem openL(hval:Value.okWide Tryz.prog W .any base 27 v0)(h0:DataW.Trod enc Tryz.prog W 0 (fun _=>true) true 27 v0 d0 p)(hlt:∀x∈p,x.block<W.heap.size) :
  ∃(a:Option Addr) (cap:Nat) (ns:List Int) (v:View),v0 = .slice a ns.length cap∧Opened W v∧RowAt v a (ns.map (.int .i64))∧Still enc W 27 v0 d0 p:=by
 have hargs:Still enc W 27 v0 d0 p:=fun w' hb=>Below.trod laid row27 lt27 h0 hb hlt
 obtain⟨a,len,cap,rfl⟩:=okWide_slice Tryz.underlying27 hval
 obtain⟨fuel,hf⟩:=h0
 obtain⟨a,cap,ns,v,e,h1,h2⟩:=B5k (c:=.slice a len cap) hf
 exact⟨a,cap,ns,v,e,h1,h2,hargs⟩
end
end Go.Proofs.YtiolobmgibdfmaaGreat
end
section
namespace Go.Proofs.YtiolobmgibdfmaaGreat
open Go Go.ChangeShapes
theorem A1c{a b:Bool}(ha:a=true)(hb:b=true):(a&&b)=true:=by rw [ha,hb];rfl
theorem j17_0:(Rows.vouchChecksRow.wf (OpenSpec.ofChange Rows.vouchChecksSpec))=true:=by kernel_rfl
theorem j17_1:(laidOutB Tryz.prog)=true:=by kernel_rfl
theorem j17_2:(mapsRowed Tryz.prog)=true:=by kernel_rfl
theorem j17_3:(Tryz.f17.params.all (Tryz.prog.readableRec ·))=true:=by kernel_rfl
theorem j17_4:(namedTie Tryz.prog Rows.vouchChecksRow.named Rows.vouchChecksSpec.vars)=true:=by kernel_rfl
theorem j17_5:((Rows.vouchChecksRow.stops == []))=true:=by kernel_rfl
theorem j17_6:((Tryz.prog.stops == []))=true:=by kernel_rfl
theorem j17_7:((Rows.vouchChecksRow.knobs == []))=true:=by kernel_rfl
theorem j17_8:((Tryz.prog.stopKnobs == []))=true:=by kernel_rfl
theorem j17_9:((Rows.vouchChecksRow.inPlace==Tryz.prog.inPlace 17))=true:=by kernel_rfl
theorem j17_10:((Rows.vouchChecksRow.unfollowed==Tryz.prog.unfollowed 17))=true:=by kernel_rfl
theorem j17_11:((Rows.vouchChecksRow.recurses==Tryz.prog.recurses 17))=true:=by kernel_rfl
theorem j17_12:((Rows.vouchChecksRow.named==Tryz.prog.varsNamed 17))=true:=by kernel_rfl
theorem j17_13:((Rows.vouchChecksRow.maps==(Tryz.f17.params.toList++Rows.vouchChecksSpec.plain.varTypes Tryz.prog).any (Tryz.prog.mapsRec ·)))=true:=by kernel_rfl
theorem j17_14:((Rows.vouchChecksRow.ifaces==(Tryz.f17.params.toList++Rows.vouchChecksSpec.plain.varTypes Tryz.prog).any (Tryz.prog.ifacesRec ·)))=true:=by kernel_rfl
theorem j17_15:((Rows.vouchChecksRow.mapsOut==Tryz.prog.mapsAmong Tryz.f17.resultTypes.toList))=true:=by kernel_rfl
theorem j17_16:((Rows.vouchChecksRow.loops==(Tryz.f17.params.toList++Rows.vouchChecksSpec.plain.varTypes Tryz.prog).any (Tryz.prog.loopsFrom ·)))=true:=by kernel_rfl
theorem j17_17:((Rows.vouchChecksRow.wideKeys==(Tryz.f17.params.toList++Rows.vouchChecksSpec.plain.varTypes Tryz.prog++Tryz.f17.resultTypes.toList).any (Tryz.prog.wideKeysFrom ·)))=true:=by kernel_rfl
theorem j17_18:(Rows.vouchChecksSpec.vars.all (Tryz.prog.varReadable ·))=true:=by kernel_rfl
theorem j17_19:(Tryz.f17.resultTypes.all (fun t=>Tryz.prog.readableRec t&&decide (t<Tryz.prog.types.size)))=true:=by kernel_rfl
theorem j17_20:((Rows.vouchChecksRow.ifacesOut==Tryz.f17.resultTypes.toList.any (Tryz.prog.ifacesRec ·)))=true:=by kernel_rfl
theorem j17_21:((Rows.vouchChecksRow.loopsOut==Tryz.f17.resultTypes.toList.any (Tryz.prog.loopsFrom ·)))=true:=by kernel_rfl
theorem j17_22:((Rows.vouchChecksRow.plainKeys==Tryz.prog.plainKeys))=true:=by kernel_rfl
theorem j17_23:(Rows.vouchChecksRow.shortTexts.isNone)=true:=by kernel_rfl
theorem j17_24:(Tryz.prog.stopsHeard)=true:=by kernel_rfl
theorem j17_25:(Tryz.prog.mayEnter)=true:=by kernel_rfl
theorem j17_26:((Rows.vouchChecksRow.lifted==Tryz.prog.liftsFinal))=true:=by kernel_rfl
theorem j17_27:((Tryz.prog.make==some Rows.vouchChecksRow.make))=true:=by kernel_rfl
theorem j17_28:((Rows.vouchChecksRow.kinds==(if Rows.vouchChecksRow.domain.isEmpty then []else Tryz.f17.params.toList.map fun t=>match Tryz.prog.underlying t with|some (.int k)=>some k|_=>none)))=true:=by kernel_rfl
theorem j17_29:((Rows.vouchChecksRow.pinned==Rows.vouchChecksRow.pinnedBy))=true:=by kernel_rfl
theorem j17_30:((Rows.vouchChecksRow.veiled==(Tryz.f17.params.toList++Rows.vouchChecksSpec.plain.varTypes Tryz.prog++Tryz.f17.resultTypes.toList).any (Tryz.prog.veiledRec ·)))=true:=by kernel_rfl
theorem j17_31:(Rows.vouchChecksRow.veiledFits Tryz.prog Tryz.f17.params.toList (Tryz.f17.params.toList++Rows.vouchChecksSpec.plain.varTypes Tryz.prog++Tryz.f17.resultTypes.toList))=true:=by kernel_rfl
set_option maxRecDepth 100000 in
theorem j17:joinedFacts Tryz.prog 17 Tryz.f17 Rows.vouchChecksSpec Rows.vouchChecksRow=true:=A1c (A1c (A1c (A1c (A1c (A1c (A1c (A1c (A1c (A1c (A1c (A1c (A1c (A1c (A1c (A1c (A1c (A1c (A1c (A1c (A1c (A1c (A1c (A1c (A1c (A1c (A1c (A1c (A1c (A1c (A1c (j17_0) j17_1) j17_2) j17_3) j17_4) j17_5) j17_6) j17_7) j17_8) j17_9) j17_10) j17_11) j17_12) j17_13) j17_14) j17_15) j17_16) j17_17) j17_18) j17_19) j17_20) j17_21) j17_22) j17_23) j17_24) j17_25) j17_26) j17_27) j17_28) j17_29) j17_30) j17_31
end Go.Proofs.YtiolobmgibdfmaaGreat
end
section
namespace Go.Proofs.YtiolobmgibdfmaaGreat
open Go Go.Pal Go.Conc Go.ConcM Go.RowKit Go.ChangeShapes Go.WideShapes Go.ChangeAt
open View
theorem B0f:ownKnob Tryz.prog.godebug=none:=by kernel_rfl
set_option maxRecDepth 100000 in
set_option maxHeartbeats 4000000 in
theorem checks_lifted(os:Os)(started:os.Started)(H:Type)(enc:TypeId×Value→H)(F:Stop.Interp) :
  ReturnsInLeavingWide Rows.vouchChecksRow.assume Tryz.checked os 17 .any (Rows.vouchChecksSpec.pre6 enc Tryz.prog Tryz.f17 Rows.vouchChecksRow.domain false) ((OpenSpec.ofChange Rows.vouchChecksSpec).postWith enc Tryz.prog Tryz.f17 F (outsideKept [.timePasses]) false true false):=by
 refine returnsInLeavingWide_of_change_time (C:=Tryz.checked) B0f started Tryz.func17
  (ChangeSpec.witness6c (enc:=enc) (C:=Tryz.checked) ⟨#[],#[.agg #[.int .i64 0,.int .i64 0,.slice none 0 0],.agg #[.int .i64 0,.int .i64 0,.int .i64 0,.int .i64 0],.agg #[.slice none 0 0,.slice none 0 0],.slice none 0 0],[]⟩ 8 kR kR kR kR) ?_
 intro W base args ds gs before hval0 hW _ _ hass
 have hval:∀(j:Nat) t v,Tryz.f17.params[j]?=some t→args[j]?=some v→Value.okWide Tryz.prog W .any base t v:=hval0
 have hW':=hW
 obtain⟨p,q,hA0,hV,rfl,_,_⟩:=hW
 have hA:DataW.TrodAll enc Tryz.prog W 0 (fun _=>true) true Tryz.f17.params.toList args.toList ds p:=hA0
 rw [Tryz.params17]at hA hval
 obtain⟨v0,v1,v2,v3,d0,d1,d2,d3,p0,p1,p2,p3,rfl,rfl,rfl,h0,h1,h2,h3⟩:=trodAll_four hA
 obtain⟨rfl,rfl⟩:=trodVars_none hV
 clear hA0 hval0
 simp only [List.append_nil,List.append_assoc]at hW'
 have hlt:∀x∈p0++(p1++(p2++(p3))),x.block<W.heap.size:=fun x hx=>by simpa using hW'.lt x hx
 obtain⟨P,F,a,ws,cap,u0,rfl,-,hu0,hws,hst0⟩:=openV (hval 0 24 v0 rfl rfl) h0 (fun x hx=>hlt x (by simp only [List.mem_append];simp [hx]))
 obtain⟨xw,rfl,hst1⟩:=openX (hval 1 26 v1 rfl rfl) h1 (fun x hx=>hlt x (by simp only [List.mem_append];simp [hx]))
 obtain⟨ax,tx,cx,ay,ty,cy,u2,w2,rfl,hu2,hw2,htx,hty,hst2⟩:=openW (hval 2 38 v2 rfl rfl) h2 (fun x hx=>hlt x (by simp only [List.mem_append];simp [hx]))
 obtain⟨a0,cap0,ns,u3,rfl,hu3,hns,hst3⟩:=openL (hval 3 27 v3 rfl rfl) h3 (fun x hx=>hlt x (by simp only [List.mem_append];simp [hx]))
 obtain⟨hO0,la0,lb0⟩:=hu0.both hu2
 obtain⟨hO1,la1,lb1⟩:=hO0.both hw2
 obtain⟨hO2,la2,lb2⟩:=hO1.both hu3
 have hcalm:Calm W.tape:=hass.2.1 Z
 obtain⟨M,last,o,w',t',r1,r2,r3,v',e,hp,g1,g2,g3,g4⟩:=law_run (P:=Tryz.prog) (W:=W) (v:=(((u0.union u2).union w2).union u3)) (args:=[boV P F a ws.length cap,wdV xw,wldV ax tx.length cx ay ty.length cy,.slice a0 ns.length cap0]) Tryz.func17 rfl kR hO2.ag hO2.ro hcalm (checks_run (y:=⟨P,F,ws,a,cap⟩) (hws.le (((la0).trans la1).trans la2)) (RowAt.le htx (((lb0).trans la1).trans la2)) (RowAt.le hty ((lb1).trans la2)) (RowAt.le hns (lb2)))
 refine⟨M,last,o,w',t',r1,r2,r3,v',e,⟨?_,hp.2.2⟩,g1,g2,g3,g4⟩
 obtain⟨rfl,hbel,hos⟩:=hp
 exact⟨_,_,_,[],p0++(p1++(p2++(p3))),[],hW',trodAll_mk1 (shut_bool Tryz.underlying4 true),trodAll_mk4 (hst0 _ hbel) (hst1 _ hbel) (hst2 _ hbel) (hst3 _ hbel),Z,hbel.frame _,fun h=>by cases h⟩
theorem checks_said:Rows.VouchChecksSaid:=
 OpenClaim.holds_of_wide_leaving_time 17 Tryz.f17 rfl rfl rfl rfl rfl rfl rfl ⟨rfl,rfl,rfl,rfl,rfl⟩ rfl rfl rfl rfl rfl kR Tryz.func17 j17
  (of_decide_eq_true kR) (by unfold Func.isWrapper;first|(rw [if_pos (by decide +kernel)];kernel_rfl)|(rw [if_neg (by decide +kernel)];exact⟨Z,Z⟩))
  (fun os started H enc _ F=>checks_lifted os started H enc F)
end Go.Proofs.YtiolobmgibdfmaaGreat
end
#print axioms Go.Proofs.YtiolobmgibdfmaaGreat.checks_said
