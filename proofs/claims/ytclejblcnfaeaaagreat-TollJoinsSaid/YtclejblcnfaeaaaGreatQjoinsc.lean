/- 'palfreylaw12.TollJoins' returns true for every morning, any two books, any act and any list of numbers, whatever the goroutines of its calls do, and the arguments read as they did, as its row says it. No condition. -/
import Derived.ChangeSame
import Derived.Conc.Holds
import Derived.Conc.LeavingOf
import Derived.Deep.Fields
import Derived.Deep.Slices
import Derived.Handed
import Derived.JoinedOf
import Derived.Lib.SmallJoins
import Derived.OpenShut
import Derived.ProofKit
import Derived.WalkKit
import Derived.Test.YtclejblcnfaeaaaGreatQjoinsb
set_option linter.all false
section
namespace Go.Proofs.YtclejblcnfaeaaaGreat
open Go Go.Pal Go.Pal.To Go.Conc View
open Go.Proofs.Tryz
set_option maxHeartbeats 4000000
set_option maxRecDepth 20000
theorem joinR_len(P:Int)(d:List Int)(a b:List MA):(joinR P d a b).2.1.length≤8∧(joinR P d a b).2.2.length≤8:=by
 unfold joinR
 by_cases h:(A4o P d a b true).1≠0
 ·rw [if_pos h];exact⟨Nat.zero_le _,Nat.zero_le _⟩
 ·rw [if_neg h]
  obtain⟨h1,_,h2,h3⟩:=A9j (Classical.byContradiction fun e=>h e)
  have hok:=layE_ok.1 h1
  have ha:=hok.la
  have hb:=hok.lb
  rw [h3]
  dsimp only
  cases hw:A1q a b d with
  | nil=>exact absurd hw h2
  | cons w ws=>
   have hm:w∈A1q a b d:=by rw [hw];exact List.mem_cons_self ..
   have:=B3u (A6l hm).1
   dsimp only
   omega
structure CaseAt(u:View)(m:List Value)(x y:Value)(P:Int)(d:List Int)(p q:List MA):Prop where
 m:∃aD cD,m=[intV P,.slice aD d.length cD]∧RowAt u aD (d.map intV)
 x:∃a c,x = .slice a p.length c∧p.length≤c∧ActsAt u a p
 y:∃a c,y = .slice a q.length c∧q.length≤c∧ActsAt u a q
 ld:d.length≤20
 lp:p.length≤20
 lq:q.length≤20
def spL(P:Int)(d:List Int)(p q:List MA):Nat→Value→A0f→Prop
 | 4,y,β=>∃a c,y=moV P a d.length c∧OwnS 3 1 β a d.length c (d.map intV)
 | 9,y,β=>OwnI 26 4 y β p.length (p.map MA.cells).flatten
 | 14,y,β=>OwnI 26 4 y β q.length (q.map MA.cells).flatten
 | _,y,β=>∃b,y = .pointer (some ⟨b,0,none⟩)∧β=[(b,(Value.agg (List.toArray [.int .i64 0,.slice none 0 0])).cells,24)]
def dstL(i:Nat):Nat:=bif Nat.beq i 15 then 15 else i+52
theorem joins_run{v:View}{P:Int}{aD aA aB a0:Option Addr}{cD cA cB cap0:Nat}{d:List Int}{p q:List MA}{x:MA}{ns:List Int}(hd:RowAt v aD (d.map intV))(hp:ActsAt v aA p)(hq:ActsAt v aB q)(hcA:p.length≤cA)(hcB:q.length≤cB)(hns:RowAt v a0 (ns.map (.int .i64))) :
  Run prog ⟨true,true⟩ (AtTop 4 10) v (G (Frame.enter prog 4 (List.toArray [moV P aD d.length cD,.slice aA p.length cA,.slice aB q.length cB,x.val,.slice a0 ns.length cap0]) .normal) []):=by
 refine top_run func4 Y nB ?_
 repeat (first|refine st ?_|refine qb fun bx=>?_)
 refine Q_op fun ho=>A0t ho bod31 Y Y Y Y Y long_x ?_
 clear ho
 cases hlg:longB d.length p.length q.length with
 | true=>
  repeat (first|refine st ?_|refine qb fun bx=>?_)
  refine Q_op fun ho=>A0t ho bod17 Y Y Y Y Y held_x ?_
  clear ho
  repeat (first|refine st ?_|refine qb fun bx=>?_)
  exact⟨Y,Y,Y⟩
 | false=>
 have hlens:d.length≤20∧p.length≤20∧q.length≤20:=by
  unfold longB at hlg
  simp only [Bool.or_eq_false_iff,decide_eq_false_iff_not]at hlg
  omega
 repeat (first|refine st ?_|refine qb fun bx=>?_)
 rename_i b5
 obtain⟨b8,rfl⟩:∃x:Nat,x=bx:=⟨bx,rfl⟩
 refine A1d [5,6] [0,1,2,3,4,5,6,7,8,9,10,11,12,13] A1f Y kR ?_
 repeat (first|refine st ?_|refine qb fun bx=>?_)
 refine S_do kR (A0k [] [(b8,x.val.cells,26),(b5,(moV P aD d.length cD).cells,24)] Y bod18 Y Y Y Y Y A6z newBag_x (fun r1 β1 hR1=>⟨Le.refl _,kp,?_⟩))
 obtain⟨bg,rfl,hB⟩:=hR1
 repeat (first|refine st ?_|refine qb fun bx=>?_)
 refine S_do kR (A0k β1 [(b8,x.val.cells,26),(b5,(moV P aD d.length cD).cells,24)] Y bod32 Y Y Y Y Y cntA (several_x (RowAt.le hns (A0e _ _)) hB) (fun r2 β2 hR2=>⟨Le.refl _,kp,?_⟩))
 obtain⟨b1,b2,b3,c1,c2,c3,M,dw,aw,cw,xs,ys,ax,ay,az,cx,cy,cz,segM,segX,segY,segZ,rfl,rfl,hL1,hL2,hL3,hSM,hSX,hSY,hSZ,hM,hx4,hy4,hxa,hya⟩:=hR2
 repeat (first|refine st ?_|refine qb fun bx=>?_)
 obtain⟨β1,hβ1⟩:∃β1:A0f,β1=(b1,c1,24)::(b2,c2,42)::(b3,c3,42)::(segM++(segX++(segY++segZ))):=⟨_,rfl⟩
 refine XC_retire (β1:=β1) (β2:=[(b8,x.val.cells,26),(b5,(moV P aD d.length cD).cells,24)]) (by rw [hβ1];exact(show ∀p,Pal.cnt p (((b1,c1,24)::(b2,c2,42)::(b3,c3,42)::(segM++(segX++(segY++segZ))))++[(b8,x.val.cells,26),(b5,(moV P aD d.length cD).cells,24)])=Pal.cnt p (((b1,c1,24)::(b2,c2,42)::(b3,c3,42)::(segM++(segX++(segY++segZ))))++[(b8,x.val.cells,26),(b5,(moV P aD d.length cD).cells,24)])from cntA)) (fun hbk=>?_)
 have r1:=RowAt.own hbk (by rw [hβ1];exact cntL) hL1
 have r2:=RowAt.own hbk (by rw [hβ1];exact cntL) hL2
 have r3:=RowAt.own hbk (by rw [hβ1];exact cntL) hL3
 have rM:=RowAt.own hbk (by rw [hβ1];exact cntL) hSM
 have rX:ActsAt _ ax xs:=RowAt.own hbk (by rw [hβ1];exact cntL) hSX
 have rY:ActsAt _ ay ys:=RowAt.own hbk (by rw [hβ1];exact cntL) hSY
 have rZ:ActsAt _ az (ys++[x]):=RowAt.own hbk (by rw [hβ1];exact cntL) hSZ
 have hcase:∀i,i<3→∃m y z P' d' p' q',[[intV P,.slice aD d.length cD],[intV M,.slice aw dw.length cw],[intV M,.slice aw dw.length cw]][i]?=some m∧[Value.slice aA p.length cA,.slice ax xs.length cx,.slice ax xs.length cx][i]?=some y∧[Value.slice aB q.length cB,.slice ay ys.length cy,.slice az (ys.length+1) cz][i]?=some z∧CaseAt (v.union (A0c β1)) m y z P' d' p' q':=fun i hi=>by
  have hu:=A0e v (A0c β1)
  have hml:=hM.len
  have e:i=0∨i=1∨i=2:=oM
  rcases e with rfl|rfl|rfl
  ·exact⟨_,_,_,P,d,p,q,Y,Y,Y,⟨aD,cD,Y,hd.le hu⟩,⟨aA,cA,Y,hcA,hp.le hu⟩,⟨aB,cB,Y,hcB,hq.le hu⟩,hlens.1,hlens.2.1,hlens.2.2⟩
  ·exact⟨_,_,_,M,dw,xs,ys,Y,Y,Y,⟨aw,cw,Y,rM⟩,⟨ax,cx,Y,hSX.cap,rX⟩,⟨ay,cy,Y,hSY.cap,rY⟩,oM,oM,oM⟩
  ·refine⟨_,_,_,M,dw,xs,ys++[x],Y,Y,Y,⟨aw,cw,Y,rM⟩,⟨ax,cx,Y,hSX.cap,rX⟩,⟨az,cz,by rw [List.length_append];rfl,by rw [List.length_append];exact hSZ.cap,rZ⟩,oM,oM,by rw [List.length_append];show ys.length+1≤20;omega⟩
 generalize v.union (A0c β1)=v1 at *
 clear hβ1 hbk hL1 hL2 hL3 hSM hSX hSY hSZ hM hx4 hy4 hxa hya rM rX rY rZ hns hd hp hq hB
 refine A1k (α:=Nat) (fun i=>⟨[],[(14,.int .i64 i),(11,.slice (some ⟨b1,0,none⟩) 3 3),(12,.slice (some ⟨b2,0,none⟩) 3 3),(13,.slice (some ⟨b3,0,none⟩) 3 3)],[]⟩)
  (fun i u=>v1.Le u∧i≤3) (fun i=>3-i) 0 ⟨Y,rg,cntL⟩ (Le.refl _) ⟨Le.refl _,Nat.zero_le _⟩ ?_
 rintro i u ⟨hvu,hi⟩
 repeat (first|refine st ?_|refine qb fun bx=>?_)
 refine A0y Y (fun h=>?_) (fun h=>?_)
 ·have hlt:i<3:=by have:=of_decide_eq_true h;omega
  clear h
  obtain⟨m,y,z,P',d',p',q',hm,hy,hz,hcs⟩:=hcase i hlt
  obtain⟨⟨aE,cE,rfl,hdE⟩,⟨aP,cP,rfl,hcP,hpE⟩,⟨aQ,cQ,rfl,hcQ,hqE⟩,hld,hlp,hlq⟩:=hcs
  obtain⟨b1',o1,k1,d1,e1,f1,e1',hv1,hc1⟩:=RowAt.recs (k:=2) (xs:=[[intV P,.slice aD d.length cD],[intV M,.slice aw dw.length cw],[intV M,.slice aw dw.length cw]]) (RowAt.le r1 hvu) sM dM (i:=i) hlt
  have hc1':=hc1 i hlt
  rw [show([[intV P,.slice aD d.length cD],[intV M,.slice aw dw.length cw],[intV M,.slice aw dw.length cw]]:List (List Value))[i]'hlt=[intV P',.slice aE d'.length cE]from by
   have:=List.getElem?_eq_getElem (l:=([[intV P,.slice aD d.length cD],[intV M,.slice aw dw.length cw],[intV M,.slice aw dw.length cw]]:List (List Value))) (i:=i) hlt
   rw [this]at hm
   exact Option.some.inj hm]at hc1'
  obtain⟨b2',o2,k2,d2,e2,f2,e2',hv2,hc2⟩:=row_cell (RowAt.le r2 hvu) hy
  obtain⟨b3',o3,k3,d3,e3,f3,e3',hv3,hc3⟩:=row_cell (RowAt.le r3 hvu) hz
  clear hc1 hm hy hz
  cases e1'
  cases e2'
  cases e3'
  replace hdE:=hdE.le hvu
  replace hpE:=hpE.le hvu
  replace hqE:=hqE.le hvu
  have hjl:=joinR_len P' d' p' q'
  repeat (first|refine st ?_|refine qb fun bx=>?_)
  refine A1d [4,9,14,15,16] [0,1,2,3,5,6,7,8,10,11,12,13,4,9,14,15,16,17,18] A1f Y kR ?_
  repeat (first|refine st ?_|refine qb fun bx=>?_)
  refine A0q tab i Y Y Y kR Y Y Y Y Y hlt ?_
  repeat (first|refine st ?_|refine qb fun bx=>?_)
  refine A7b tab Y Y Y kR Y hv1 (A1i tab (x:=[intV P',.slice aE d'.length cE]) Y Y Y hc1') ?_
  repeat (first|refine st ?_|refine qb fun bx=>?_)
  refine A0q tab i Y Y Y kR Y Y Y Y Y hlt ?_
  repeat (first|refine st ?_|refine qb fun bx=>?_)
  refine A7b tab Y Y Y kR Y hv2 (A0j tab Y Y Y (by rw [Nat.mul_one];exact hc2)) ?_
  repeat (first|refine st ?_|refine qb fun bx=>?_)
  refine A0q tab i Y Y Y kR Y Y Y Y Y hlt ?_
  repeat (first|refine st ?_|refine qb fun bx=>?_)
  refine A7b tab Y Y Y kR Y hv3 (A0j tab Y Y Y (by rw [Nat.mul_one];exact hc3)) ?_
  repeat (first|refine st ?_|refine qb fun bx=>?_)
  refine S_tree (Sp:=spL P' d' p' q') (pre:=fun _=>[]) [4,9,14,15] dstL dM dM (fun j hj=>?_) dM dM (fun j hj=>?_) (by repeat (first|exact trivial|(refine⟨?_,?_⟩;focus exact ib))) kR (fun j hj c hc u' hu'=>?_) (fun c hc hz=>?_)
  ·simp only [List.mem_cons,List.not_mem_nil,or_false]at hj
   rcases hj with rfl|rfl|rfl|rfl<;>rfl
  ·simp only [List.mem_cons,List.not_mem_nil,or_false]at hj
   rcases hj with rfl|rfl|rfl|rfl<;>exact⟨fun o ho=>by cases ho;rfl,rfl⟩
  ·simp only [List.mem_cons,List.not_mem_nil,or_false]at hj
   rcases hj with rfl|rfl|rfl|rfl
   ·exact A0k [] _ Y bod21 Y Y Y Y Y A6z (ownMorn_x ((hdE.le hu').le (A0e _ _)) oM) (fun y β' hR=>⟨Y,_,_,hR,Y⟩)
   ·exact A0k [] _ Y bod33 Y Y Y Y Y A6z (ownActs_x ((hpE.le hu').le (A0e _ _)) oM) (fun y β' hR=>⟨Y,_,_,hR,Y⟩)
   ·exact A0k [] _ Y bod33 Y Y Y Y Y A6z (ownActs_x ((hqE.le hu').le (A0e _ _)) oM) (fun y β' hR=>⟨Y,_,_,hR,Y⟩)
   ·exact A9u tab Y Y Y Y (fun b=>⟨Y,_,_,⟨b,Y,Y⟩,Y⟩)
  obtain⟨a4,c4,e4,hS4⟩:∃a c',(c 4).1=moV P' a d'.length c'∧OwnS 3 1 (c 4).2 a d'.length c' (d'.map intV):=hc 4 dM dM
  obtain⟨a9,c9,e9,hS9⟩:OwnI 26 4 (c 9).1 (c 9).2 p'.length (p'.map MA.cells).flatten:=hc 9 dM dM
  obtain⟨a14,c14,e14,hS14⟩:OwnI 26 4 (c 14).1 (c 14).2 q'.length (q'.map MA.cells).flatten:=hc 14 dM dM
  obtain⟨b15,e15,f15⟩:∃b,(c 15).1 = .pointer (some ⟨b,0,none⟩)∧(c 15).2=[(b,(Value.agg (List.toArray [.int .i64 0,.slice none 0 0])).cells,24)]:=hc 15 dM dM
  simp only [netR,netβ,e4,e9,e14,e15,f15]
  generalize (c 4).2=sgA at hS4⊢
  generalize (c 9).2=sgB at hS9⊢
  generalize (c 14).2=sgC at hS14⊢
  clear hc hz e4 e9 e14 e15 f15
  repeat (first|refine st ?_|refine qb fun bx=>?_)
  rw [putV_mo]
  refine A8d (β1:=sgA++(sgB++sgC)) (β2:=[(b15,(moV P' a4 d'.length c4).cells,24)]) cntA (fun hbk2=>?_)
  have rA:=RowAt.own hbk2 (by exact cntL) hS4
  have rB:ActsAt _ a9 p':=RowAt.own hbk2 (by exact cntL) hS9
  have rC:ActsAt _ a14 q':=RowAt.own hbk2 (by exact cntL) hS14
  have hu2:=A0e u (A0c (sgA++(sgB++sgC)))
  replace hvu:=hvu.trans hu2
  replace hv1:=hu2 _ _ hv1
  replace hv2:=hu2 _ _ hv2
  replace hv3:=hu2 _ _ hv3
  replace hdE:=hdE.le hu2
  replace hpE:=hpE.le hu2
  replace hqE:=hqE.le hu2
  have hdl:d'.length<2^30:=oM
  have hpl:p'.length<2^30:=oM
  have hql:q'.length<2^30:=oM
  replace hc2:d2[0+i*1]?=some (.slice aP p'.length cP):=by rw [Nat.mul_one];exact hc2
  replace hc3:d3[0+i*1]?=some (.slice aQ q'.length cQ):=by rw [Nat.mul_one];exact hc3
  generalize u.union (A0c (sgA++(sgB++sgC)))=u1 at *
  clear hu2 hbk2 hS4 hS9 hS14 r1 r2 r3 hcase u
  refine Q_op fun ho=>A1r ho bod34 Y Y Y Y Y (join_x (P:=P') (cD:=c4) (cA:=c9) (cB:=c14) rA hdl rB rC hpl hql) (fun y u2 hl hR=>?_)
  clear ho
  replace hvu:=hvu.trans hl
  replace hv1:=hl _ _ hv1
  replace hv2:=hl _ _ hv2
  replace hv3:=hl _ _ hv3
  replace hdE:=hdE.le hl
  replace hpE:=hpE.le hl
  replace hqE:=hqE.le hl
  replace rA:=rA.le hl
  replace rB:=rB.le hl
  replace rC:=rC.le hl
  clear hl
  obtain⟨ab,cb,am,cm,rfl,hjb,hjm⟩:=hR
  have hcc:=countR_x (mn:=⟨true,true⟩) (v:=u2) (P:=P') (cD:=cE) (cA:=cP) (cB:=cQ) hdE hdl hpE hqE hpl hql hcP hcQ
  have hcc2:=count_x (v:=u2) (P:=P') (cD:=c4) (cA:=c9) (cB:=c14) rA hdl rB rC hpl hql
  have hjr:=joinR_x (mn:=⟨true,true⟩) (v:=u2) (P:=P') (cD:=cE) (cA:=cP) (cB:=cQ) hdE hdl hpE hqE hpl hql hcP hcQ
  generalize joinR P' d' p' q'=jr at *
  obtain⟨je,jb,jm⟩:=jr
  generalize B2z P' d' p' q'=cr0 at *
  obtain⟨n1,n2,ce⟩:=cr0
  dsimp only at hjl hjb hjm
  repeat (first|refine st ?_|refine qb fun bx=>?_)
  refine A1d [12] [0,1,2,3,4,5,6,7,8,9,10,11,12,13,14,15,16,17,18,19] A1f Y kR ?_
  repeat (first|refine st ?_|refine qb fun bx=>?_)
  refine A0q tab i Y Y Y kR Y Y Y Y Y hlt ?_
  repeat (first|refine st ?_|refine qb fun bx=>?_)
  refine A7b tab Y Y Y kR Y hv1 (A1i tab (x:=[intV P',.slice aE d'.length cE]) Y Y Y hc1') ?_
  repeat (first|refine st ?_|refine qb fun bx=>?_)
  refine A0q tab i Y Y Y kR Y Y Y Y Y hlt ?_
  repeat (first|refine st ?_|refine qb fun bx=>?_)
  refine A7b tab Y Y Y kR Y hv2 (A0j tab Y Y Y hc2) ?_
  repeat (first|refine st ?_|refine qb fun bx=>?_)
  refine A0q tab i Y Y Y kR Y Y Y Y Y hlt ?_
  repeat (first|refine st ?_|refine qb fun bx=>?_)
  refine A7b tab Y Y Y kR Y hv3 (A0j tab Y Y Y hc3) ?_
  repeat (first|refine st ?_|refine qb fun bx=>?_)
  refine S_do kR (A1r Y bod35 Y Y Y Y Y hjr (fun y u3 hl hR=>⟨hl,kp,?_⟩))
  obtain⟨ab',cb',am',cm',rfl,hjb',hjm'⟩:=hR
  dsimp only at hjb' hjm'
  replace hcc:=hcc.le hl
  replace hcc2:=hcc2.le hl
  replace hjb:=hjb.le hl
  replace hjm:=hjm.le hl
  replace hvu:=hvu.trans hl
  replace hv1:=hl _ _ hv1
  replace hv2:=hl _ _ hv2
  replace hv3:=hl _ _ hv3
  replace hdE:=hdE.le hl
  replace hpE:=hpE.le hl
  replace hqE:=hqE.le hl
  replace rA:=rA.le hl
  replace rB:=rB.le hl
  replace rC:=rC.le hl
  clear hl
  repeat (first|refine st ?_|refine qb fun bx=>?_)
  refine Q_op fun ho=>A0t ho bod36 Y Y Y Y Y hcc2 ?_
  clear ho
  repeat (first|refine st ?_|refine qb fun bx=>?_)
  refine A1d [12] [0,1,2,3,4,5,6,7,8,9,10,11,12,13,14,15,16,17,18,19] A1f Y kR ?_
  repeat (first|refine st ?_|refine qb fun bx=>?_)
  refine A0q tab i Y Y Y kR Y Y Y Y Y hlt ?_
  repeat (first|refine st ?_|refine qb fun bx=>?_)
  refine A7b tab Y Y Y kR Y hv1 (A1i tab (x:=[intV P',.slice aE d'.length cE]) Y Y Y hc1') ?_
  repeat (first|refine st ?_|refine qb fun bx=>?_)
  refine A0q tab i Y Y Y kR Y Y Y Y Y hlt ?_
  repeat (first|refine st ?_|refine qb fun bx=>?_)
  refine A7b tab Y Y Y kR Y hv2 (A0j tab Y Y Y hc2) ?_
  repeat (first|refine st ?_|refine qb fun bx=>?_)
  refine A0q tab i Y Y Y kR Y Y Y Y Y hlt ?_
  repeat (first|refine st ?_|refine qb fun bx=>?_)
  refine A7b tab Y Y Y kR Y hv3 (A0j tab Y Y Y hc3) ?_
  repeat (first|refine st ?_|refine qb fun bx=>?_)
  refine S_do kR (A0t Y bod37 Y Y Y Y Y hcc ⟨Le.refl _,kp,?_⟩)
  repeat (first|refine st ?_|refine qb fun bx=>?_)
  refine XC_lex A1f Y kR ?_
  repeat (first|refine st ?_|refine qb fun bx=>?_)
  rw [show(je != je)=false from by simp]
  repeat (first|refine st ?_|refine qb fun bx=>?_)
  rw [show(ce != ce)=false from by simp]
  repeat (first|refine st ?_|refine qb fun bx=>?_)
  rw [show(((n1:Nat):Int) != ((n1:Nat):Int))=false from by simp]
  repeat (first|refine st ?_|refine qb fun bx=>?_)
  rw [show(((n2:Nat):Int) != ((n2:Nat):Int))=false from by simp]
  repeat (first|refine st ?_|refine qb fun bx=>?_)
  refine A2z bod38 Y Y Y Y Y (A6h (sameActs_x (cA:=cb) (cB:=cb') hjb hjb' (show jb.length<2^62 by omega) (show jb.length<2^62 by omega))) ?_
  repeat (first|refine st ?_|refine qb fun bx=>?_)
  refine A2z bod39 Y Y Y Y Y (A6h (B0h (cA:=cm) (cB:=cm') hjm hjm' (show jm.length<2^62 by omega) (show jm.length<2^62 by omega))) ?_
  repeat (first|refine st ?_|refine qb fun bx=>?_)
  refine A1l tab i Y Y Y Y Y Y Y hlt ?_
  repeat (first|refine st ?_|refine qb fun bx=>?_)
  refine A4s tab Y Y Y hv1 (A1i tab (x:=[intV P',.slice aE d'.length cE]) Y Y Y hc1') ?_
  repeat (first|refine st ?_|refine qb fun bx=>?_)
  refine A2z bod24 Y Y Y Y Y (sameMorns_x (P:=P') (cD:=c4) (cE:=cE) rA hdE hdl) ?_
  repeat (first|refine st ?_|refine qb fun bx=>?_)
  refine A1l tab i Y Y Y Y Y Y Y hlt ?_
  repeat (first|refine st ?_|refine qb fun bx=>?_)
  refine A4s tab Y Y Y hv2 (A0j tab Y Y Y hc2) ?_
  repeat (first|refine st ?_|refine qb fun bx=>?_)
  refine A2z bod38 Y Y Y Y Y (A6h (sameActs_x (cA:=c9) (cB:=cP) rB hpE oM oM)) ?_
  repeat (first|refine st ?_|refine qb fun bx=>?_)
  refine A1l tab i Y Y Y Y Y Y Y hlt ?_
  repeat (first|refine st ?_|refine qb fun bx=>?_)
  refine A4s tab Y Y Y hv3 (A0j tab Y Y Y hc3) ?_
  repeat (first|refine st ?_|refine qb fun bx=>?_)
  refine A2z bod38 Y Y Y Y Y (A6h (sameActs_x (cA:=c14) (cB:=cQ) rC hqE oM oM)) ?_
  repeat (first|refine st ?_|refine qb fun bx=>?_)
  exact A0a ⟨i+1,_,oM,⟨Y,rg,cntL⟩,Le.refl _,hvu,hlt⟩
 ·have hin:i=3:=by have:=of_decide_eq_false h;omega
  clear h
  repeat (first|refine st ?_|refine qb fun bx=>?_)
  refine Q_op fun ho=>A0t ho bod17 Y Y Y Y Y held_x ?_
  clear ho
  repeat (first|refine st ?_|refine qb fun bx=>?_)
  exact⟨Y,Y,Y⟩
end Go.Proofs.YtclejblcnfaeaaaGreat
end
section
namespace Go.Proofs.YtclejblcnfaeaaaGreat
open Go Go.Pal Go.Pal.To Go.Conc Go.ConcM Go.RowKit Go.ChangeShapes Go.WideShapes Go.ChangeAt Go.Deep
set_option maxHeartbeats 4000000
set_option maxRecDepth 100000
structure Opened(W:World)(v:View):Prop where
 ag:v.Agree W
 ro:∀b,¬v.Owns b
theorem opened0(W:World):Opened W (fun _=>none):=⟨(fun b p o h=>nomatch (show none=some (p,o)from h)),(fun b h=>by obtain⟨o,h⟩:=h;cases h)⟩
theorem Opened.both{W:World}{u v:View}(hu:Opened W u)(hv:Opened W v):Opened W (u.union v)∧u.Le (u.union v)∧v.Le (u.union v):=by
 have key:∀b,(u.union v) b=u b∨(u.union v) b=v b:=fun b=>by
  unfold View.union
  cases u b with
  | none=>exact .inr rfl
  | some x=>exact .inl rfl
 refine⟨⟨fun b p o h=>?_,fun b h=>?_⟩,(fun b x h=>by unfold View.union;rw [h]),fun b x h=>?_⟩
 ·rcases key b with e|e
  ·exact hu.ag b p o (e ▸ h)
  ·exact hv.ag b p o (e ▸ h)
 ·obtain⟨o,h⟩:=h
  rcases key b with e|e
  ·exact hu.ro b ⟨o,e ▸ h⟩
  ·exact hv.ro b ⟨o,e ▸ h⟩
 ·unfold View.union
  cases hb:u b with
  | none=>exact h
  | some y=>
   obtain⟨p,o⟩:=y
   obtain⟨p',o'⟩:=x
   have e1:=hu.ag b p o hb
   have e2:=hv.ag b p' o' h
   rw [e1]at e2
   cases e2
   have f1:p=false:=by
    cases p with
    | false=>rfl
    | true=>exact absurd ⟨_,hb⟩ (hu.ro b)
   have f2:p'=false:=by
    cases p' with
    | false=>rfl
    | true=>exact absurd ⟨_,h⟩ (hv.ro b)
   rw [f1,f2]
theorem row_view{W:World}{a:Addr}{cs:List Value}(hc:∀(i:Nat) (x:Value),cs[i]?=some x→W.cell? (a.add i)=some x):∃v,Opened W v∧RowAt v (some a) cs:=by
 cases cs with
 | nil=>exact⟨_,opened0 W,.inl rfl⟩
 | cons y l=>
  obtain⟨b,off,spot⟩:=a
  have h00:=hc 0 y Y
  have hspot:spot=none:=by simpa [Addr.add]using World.cell?_spot h00
  subst hspot
  have hc':∀(i:Nat) (x:Value),(y::l)[i]?=some x→W.cell? ⟨b,off+i,none⟩=some x:=fun i x hi=>by
   have:=hc i x hi
   rwa [add_plain]at this
  obtain⟨c,e,f,hO⟩:∃c e f,W.heap[b]?=some (.cells c e f):=by
   have:=hc' 0 y Y
   unfold World.cell? at this
   split at this
   ·rename_i c e f h;exact⟨c,e,f,h⟩
   ·cases this
  have hcc:∀(i:Nat) (x:Value),(y::l)[i]?=some x→c[off+i]?=some x:=fun i x hi=>by
   have:=hc' i x hi
   unfold World.cell? at this
   rw [hO]at this
   simpa using this
  refine⟨fun k=>if k=b then some (false,.cells c e f)else none,⟨fun k p o h=>?_,fun k h=>?_⟩,.inr ⟨b,off,false,c,e,f,Y,if_pos Y,?_,hcc⟩⟩
  ·replace h:(if k=b then some (false,Obj.cells c e f)else none)=some (p,o):=h
   by_cases hk:k=b
   ·subst hk
    rw [if_pos rfl]at h
    cases h
    exact hO
   ·rw [if_neg hk]at h;cases h
  ·obtain⟨o,h⟩:=h
   replace h:(if k=b then some (false,Obj.cells c e f)else none)=some (true,o):=h
   by_cases hk:k=b
   ·rw [if_pos hk]at h;cases h
   ·rw [if_neg hk]at h;cases h
  ·have h1:=hcc l.length ((y::l)[l.length]' sM) (List.getElem?_eq_getElem _)
   have h2:=(Array.getElem?_eq_some_iff.1 h1).1
   simp only [List.length_cons]
   omega
theorem list_of{α:Type}{n:Nat}{p:Nat→α→Prop}(h:∀i,i<n→∃x,p i x):∃l:List α,l.length=n∧∀i (hi:i<l.length),p i l[i]:=by
 induction n with
 | zero=>exact⟨[],rfl,fun i hi=>absurd hi (Nat.not_lt_zero _)⟩
 | succ n ih=>
  obtain⟨l,hl,hp⟩:=ih fun i hi=>h i oM
  obtain⟨x,hx⟩:=h n oM
  refine⟨l++[x],by simp [hl],fun i hi=>?_⟩
  by_cases e:i<l.length
  ·rw [List.getElem_append_left e];exact hp i e
  ·have hi':i=l.length:=by simp at hi;omega
   subst hi'
   simp
   rw [hl];exact hx
theorem acts_at:∀{ws:List MA} {k:Nat} {y:Value},(ws.map MA.cells).flatten[k]?=some y→∃(i:Nat) (hi:i<ws.length) (j:Nat),j<4∧k=i*4+j∧(MA.cells ws[i])[j]?=some y
 | [],k,y,h=>by simp at h
 | x::ws,k,y,h=>by
  rw [List.map_cons,List.flatten_cons]at h
  by_cases hk:k<4
  ·rw [List.getElem?_append_left (by exact hk)]at h
   exact⟨0,by simp,k,hk,oM,h⟩
  ·rw [List.getElem?_append_right (by show 4≤k;omega)]at h
   obtain⟨i,hi,j,hj,e,hx⟩:=acts_at h
   have e':k-4=i*4+j:=e
   exact⟨i+1,by simp;omega,j,hj,oM,by simpa using hx⟩
section
variable{H:Type}{enc:TypeId×Value→H}{P:Program}{w:World}{base:Nat}{spare:Nat→Bool}{held:Bool}
theorem B3w{t e:TypeId}{fs:Array Field}{fuel:Nat}{cs:List Value}{x:DataW H×List MemPlace}(ht:P.underlying t=some (.slice e))(he:P.underlying e=some (.struct fs))
  (hone:oneCellFields P fs=true)(hC:P.cellsOf e=fs.size)(h:DataW.trod enc P w base spare held fuel t cs=some x) :
  (cs=[.slice none 0 0]∧x=(.nil,[]))∨
  ∃ (a:Addr) (len cap m:Nat),cs=[.slice (some a) len cap]∧len≤cap∧m=(if spare a.block then cap else len)∧
   ∀i,i<m→∃n:Nat,∀(j:Nat) (f:Field),fs[j]?=some f→∃(v:Value) (y:DataW H×List MemPlace),w.cell? (a.add (i*fs.size+j))=some v∧DataW.trod enc P w base spare held n f.type [v]=some y:=by
 rcases open_slice ht h with h0|⟨a,len,cap,m,n,D,Pl,hcs,hb,hl,hm,hmm,hx,hi⟩
 ·exact .inl h0
 ·refine .inr ⟨a,len,cap,m,hcs,hl,hmm,fun i him=>?_⟩
  obtain⟨cs',hc,ht'⟩:=hi i him
  rw [hC]at hc
  obtain⟨ys,n',hn',hy,hlen,hyl,hf⟩:=DataW.trod_struct he ht'
  obtain⟨_,hcl,hat⟩:=World.cells?_some hc
  refine⟨n',fun j f hj=>?_⟩
  obtain⟨ho,hk⟩:=hone_of hone j f hj
  have hjl:j<fs.size:=(Array.getElem?_eq_some_iff.1 hj).1
  have hcell:=hat j hjl
  have hv:cs'[j]?=some (cs'[j]' oM):=List.getElem?_eq_getElem oM
  have h1:=hf j f hj
  rw [ho,hk]at h1
  have hone':(cs'.drop j).take 1=[cs'[j]' oM]:=by
   rw [List.drop_eq_getElem_cons oM]
   rfl
  rw [hone']at h1
  have hys:ys[j]?=some (ys[j]' oM):=List.getElem?_eq_getElem oM
  refine⟨_,_,?_,h1.trans hys⟩
  rw [←Go.Deep.add_add,hcell,hv]
end
section
variable{H:Type}{enc:TypeId×Value→H}{W:World}
theorem ints_view{fuel:Nat}{c:Value}{x:DataW H×List MemPlace}(h:DataW.trod enc Tryz.prog W 0 (fun _=>true) true fuel 22 [c]=some x):∃(a:Option Addr) (cap:Nat) (ns:List Int) (v:View),c = .slice a ns.length cap∧Opened W v∧RowAt v a (ns.map (.int .i64)):=by
 rcases open_ints Tryz.underlying22 Tryz.underlying3 cells3 h with ⟨hcs,hx⟩|⟨a,len,cap,zs,hcs,_,hl,hm,hz,hx,hcell,hwz⟩
 ·cases hcs
  exact⟨none,0,[],_,Y,opened0 W,.inl Y⟩
 ·cases hcs
  simp only [if_true]at hz
  have hlen:(zs.take len).length=len:=by rw [List.length_take];omega
  obtain⟨v,hv,hr⟩:=row_view (W:=W) (a:=a) (cs:=(zs.take len).map (.int .i64)) fun i x hi=>by
   rw [List.getElem?_map,Option.map_eq_some_iff]at hi
   obtain⟨y,hy,rfl⟩:=hi
   rw [List.getElem?_take]at hy
   split at hy
   ·rw [hcell i oM,List.getD_eq_getElem?_getD,hy];rfl
   ·cases hy
  exact⟨some a,cap,zs.take len,v,by rw [hlen],hv,hr⟩
theorem cells26:Tryz.prog.cellsOf 26=4:=by kernel_rfl
theorem words_view{fuel:Nat}{c:Value}{x:DataW H×List MemPlace}(h:DataW.trod enc Tryz.prog W 0 (fun _=>true) true fuel 42 [c]=some x):∃(a:Option Addr) (cap:Nat) (ws:List MA) (v:View),c = .slice a ws.length cap∧ws.length≤cap∧Opened W v∧ActsAt v a ws:=by
 rcases B3w Tryz.underlying42 Tryz.underlying26 kR cells26 h with ⟨hcs,hx⟩|⟨a,len,cap,m,hcs,hl,hm,hf⟩
 ·cases hcs
  exact⟨none,0,[],_,Y,Nat.le_refl _,opened0 W,.inl Y⟩
 ·cases hcs
  simp only [if_true]at hm
  subst hm
  obtain⟨ws,hws,hp⟩:=list_of (α:=MA) (n:=len) (p:=fun i x=>∀(j:Nat) (y:Value),(MA.cells x)[j]?=some y→W.cell? (a.add (i*4+j))=some y) fun i hi=>by
   obtain⟨n,hj⟩:=hf i oM
   obtain⟨v0,y0,k0,t0⟩:=hj 0 _ rfl
   obtain⟨v1,y1,k1,t1⟩:=hj 1 _ rfl
   obtain⟨v2,y2,k2,t2⟩:=hj 2 _ rfl
   obtain⟨v3,y3,k3,t3⟩:=hj 3 _ rfl
   obtain⟨n0,e0,-,-⟩:=DataW.trod_int Tryz.underlying3 t0
   obtain⟨n1,e1,-,-⟩:=DataW.trod_int Tryz.underlying3 t1
   obtain⟨n2,e2,-,-⟩:=DataW.trod_int Tryz.underlying3 t2
   obtain⟨n3,e3,-,-⟩:=DataW.trod_int Tryz.underlying3 t3
   cases e0
   cases e1
   cases e2
   cases e3
   refine⟨⟨n0,n1,n2,n3⟩,fun j y hy=>?_⟩
   match j,hy with
   | 0,hy=>cases hy;exact k0
   | 1,hy=>cases hy;exact k1
   | 2,hy=>cases hy;exact k2
   | 3,hy=>cases hy;exact k3
   | j+4,hy=>exact absurd hy (by simp [MA.cells])
  obtain⟨v,hv,hr⟩:=row_view (W:=W) (a:=a) (cs:=(ws.map MA.cells).flatten) fun k y hk=>by
   obtain⟨i,hi,j,hj,rfl,hx⟩:=acts_at hk
   exact hp i hi j y hx
  exact⟨some a,m,ws,v,by rw [hws],oM,hv,hr⟩
theorem row24:Tryz.prog.readableRec 24=true:=by kernel_rfl
theorem lt24:24<Tryz.prog.types.size:=of_decide_eq_true kR
theorem row26:Tryz.prog.readableRec 26=true:=by kernel_rfl
theorem lt26:26<Tryz.prog.types.size:=of_decide_eq_true kR
theorem row42:Tryz.prog.readableRec 42=true:=by kernel_rfl
theorem lt42:42<Tryz.prog.types.size:=of_decide_eq_true kR
variable{base:Nat}{v0:Value}{d0:DataW H}{p:List MemPlace}
def Still(enc:TypeId×Value→H)(W:World)(t:TypeId)(v0:Value)(d0:DataW H)(p:List MemPlace):Prop:=∀w':World,Below W.heap.size W w'→DataW.Trod enc Tryz.prog w' 0 (fun b=>decide (b<W.heap.size)) true t v0 d0 p
theorem openM(hval:Value.okWide Tryz.prog W .any base 24 v0)(h0:DataW.Trod enc Tryz.prog W 0 (fun _=>true) true 24 v0 d0 p)(hlt:∀x∈p,x.block<W.heap.size) :
  ∃(P:Int) (a:Option Addr) (d:List Int) (cap:Nat) (v:View),v0=moV P a d.length cap∧Opened W v∧RowAt v a (d.map intV)∧Still enc W 24 v0 d0 p:=by
 have hargs:Still enc W 24 v0 d0 p:=fun w' hb=>Below.trod laid row24 lt24 h0 hb hlt
 obtain⟨c0,c1,y0,y1,n,rfl,-,-,t0,t1⟩:=Go.Joins.open_agg2 Tryz.underlying24 kR kR hval h0
 obtain⟨n0,e0,-,-⟩:=DataW.trod_int Tryz.underlying3 t0
 cases e0
 obtain⟨a,cap,d,v,rfl,h2,h3⟩:=ints_view t1
 exact⟨n0,a,d,cap,v,Y,h2,h3,hargs⟩
theorem openA(hval:Value.okWide Tryz.prog W .any base 26 v0)(h0:DataW.Trod enc Tryz.prog W 0 (fun _=>true) true 26 v0 d0 p)(hlt:∀x∈p,x.block<W.heap.size) :
  ∃x:MA,v0=x.val∧Still enc W 26 v0 d0 p:=by
 have hargs:Still enc W 26 v0 d0 p:=fun w' hb=>Below.trod laid row26 lt26 h0 hb hlt
 obtain⟨c0,c1,c2,c3,y0,y1,y2,y3,n,rfl,-,-,t0,t1,t2,t3⟩:=Go.Joins.open_agg4 Tryz.underlying26 kR kR hval h0
 obtain⟨n0,e0,-,-⟩:=DataW.trod_int Tryz.underlying3 t0
 obtain⟨n1,e1,-,-⟩:=DataW.trod_int Tryz.underlying3 t1
 obtain⟨n2,e2,-,-⟩:=DataW.trod_int Tryz.underlying3 t2
 obtain⟨n3,e3,-,-⟩:=DataW.trod_int Tryz.underlying3 t3
 cases e0
 cases e1
 cases e2
 cases e3
 exact⟨⟨n0,n1,n2,n3⟩,Y,hargs⟩
theorem openB(hval:Value.okWide Tryz.prog W .any base 42 v0)(h0:DataW.Trod enc Tryz.prog W 0 (fun _=>true) true 42 v0 d0 p)(hlt:∀x∈p,x.block<W.heap.size) :
  ∃(a:Option Addr) (cap:Nat) (l:List MA) (v:View),v0 = .slice a l.length cap∧l.length≤cap∧Opened W v∧ActsAt v a l∧Still enc W 42 v0 d0 p:=by
 have hargs:Still enc W 42 v0 d0 p:=fun w' hb=>Below.trod laid row42 lt42 h0 hb hlt
 obtain⟨a,len,cap,rfl⟩:=okWide_slice Tryz.underlying42 hval
 obtain⟨fuel,hf⟩:=h0
 obtain⟨a,cap,l,v,e,h1,h2,h3⟩:=words_view (c:=.slice a len cap) hf
 exact⟨a,cap,l,v,e,h1,h2,h3,hargs⟩
theorem openL(hval:Value.okWide Tryz.prog W .any base 22 v0)(h0:DataW.Trod enc Tryz.prog W 0 (fun _=>true) true 22 v0 d0 p)(hlt:∀x∈p,x.block<W.heap.size) :
  ∃(a:Option Addr) (cap:Nat) (ns:List Int) (v:View),v0 = .slice a ns.length cap∧Opened W v∧RowAt v a (ns.map (.int .i64))∧Still enc W 22 v0 d0 p:=by
 have hargs:Still enc W 22 v0 d0 p:=fun w' hb=>Below.trod laid row22 lt22 h0 hb hlt
 obtain⟨a,len,cap,rfl⟩:=okWide_slice Tryz.underlying22 hval
 obtain⟨fuel,hf⟩:=h0
 obtain⟨a,cap,ns,v,e,h1,h2⟩:=ints_view (c:=.slice a len cap) hf
 exact⟨a,cap,ns,v,e,h1,h2,hargs⟩
theorem trodAll_five{P:Program}{w:World}{base:Nat}{spare:Nat→Bool}{held:Bool}{t t1 t2 t3 t4:TypeId}{args:Array Value}{ds:List (DataW H)}{ps:List MemPlace}(h:DataW.TrodAll enc P w base spare held [t,t1,t2,t3,t4] args.toList ds ps) :
  ∃v v1 v2 v3 v4 d d1 d2 d3 d4 p p1 p2 p3 p4,args=#[v,v1,v2,v3,v4]∧ds=[d,d1,d2,d3,d4]∧ps=p++(p1++(p2++(p3++p4)))∧DataW.Trod enc P w base spare held t v d p∧DataW.Trod enc P w base spare held t1 v1 d1 p1∧DataW.Trod enc P w base spare held t2 v2 d2 p2∧DataW.Trod enc P w base spare held t3 v3 d3 p3∧DataW.Trod enc P w base spare held t4 v4 d4 p4:=by
 obtain⟨v,vs,d,ds',p,q,hargs,rfl,rfl,hd,hr⟩:=trodAll_cons h
 obtain⟨v1,vs1,d1,ds1,p1,q1,rfl,rfl,rfl,hd1,hr1⟩:=trodAll_cons hr
 obtain⟨v2,vs2,d2,ds2,p2,q2,rfl,rfl,rfl,hd2,hr2⟩:=trodAll_cons hr1
 obtain⟨v3,vs3,d3,ds3,p3,q3,rfl,rfl,rfl,hd3,hr3⟩:=trodAll_cons hr2
 obtain⟨v4,vs4,d4,ds4,p4,q4,rfl,rfl,rfl,hd4,hr4⟩:=trodAll_cons hr3
 obtain⟨rfl,rfl,rfl⟩:=trodAll_nil hr4
 exact⟨v,v1,v2,v3,v4,d,d1,d2,d3,d4,p,p1,p2,p3,p4,by cases args;simp_all,Y,by simp,hd,hd1,hd2,hd3,hd4⟩
end
end Go.Proofs.YtclejblcnfaeaaaGreat
end
section
namespace Go.Proofs.YtclejblcnfaeaaaGreat
open Go Go.ChangeShapes
theorem B3x{a b:Bool}(ha:a=true)(hb:b=true):(a&&b)=true:=by rw [ha,hb];rfl
theorem j4_0:(Rows.tollJoinsRow.wf (OpenSpec.ofChange Rows.tollJoinsSpec))=true:=by kernel_rfl
theorem j4_1:(laidOutB Tryz.prog)=true:=by kernel_rfl
theorem j4_2:(mapsRowed Tryz.prog)=true:=by kernel_rfl
theorem j4_3:(Tryz.f4.params.all (Tryz.prog.readableRec ·))=true:=by kernel_rfl
theorem j4_4:(namedTie Tryz.prog Rows.tollJoinsRow.named Rows.tollJoinsSpec.vars)=true:=by kernel_rfl
theorem j4_5:((Rows.tollJoinsRow.stops == []))=true:=by kernel_rfl
theorem j4_6:((Tryz.prog.stops == []))=true:=by kernel_rfl
theorem j4_7:((Rows.tollJoinsRow.knobs == []))=true:=by kernel_rfl
theorem j4_8:((Tryz.prog.stopKnobs == []))=true:=by kernel_rfl
theorem j4_9:((Rows.tollJoinsRow.inPlace==Tryz.prog.inPlace 4))=true:=by kernel_rfl
theorem j4_10:((Rows.tollJoinsRow.unfollowed==Tryz.prog.unfollowed 4))=true:=by kernel_rfl
theorem j4_11:((Rows.tollJoinsRow.recurses==Tryz.prog.recurses 4))=true:=by kernel_rfl
theorem j4_12:((Rows.tollJoinsRow.named==Tryz.prog.varsNamed 4))=true:=by kernel_rfl
theorem j4_13:((Rows.tollJoinsRow.maps==(Tryz.f4.params.toList++Rows.tollJoinsSpec.plain.varTypes Tryz.prog).any (Tryz.prog.mapsRec ·)))=true:=by kernel_rfl
theorem j4_14:((Rows.tollJoinsRow.ifaces==(Tryz.f4.params.toList++Rows.tollJoinsSpec.plain.varTypes Tryz.prog).any (Tryz.prog.ifacesRec ·)))=true:=by kernel_rfl
theorem j4_15:((Rows.tollJoinsRow.mapsOut==Tryz.prog.mapsAmong Tryz.f4.resultTypes.toList))=true:=by kernel_rfl
theorem j4_16:((Rows.tollJoinsRow.loops==(Tryz.f4.params.toList++Rows.tollJoinsSpec.plain.varTypes Tryz.prog).any (Tryz.prog.loopsFrom ·)))=true:=by kernel_rfl
theorem j4_17:((Rows.tollJoinsRow.wideKeys==(Tryz.f4.params.toList++Rows.tollJoinsSpec.plain.varTypes Tryz.prog++Tryz.f4.resultTypes.toList).any (Tryz.prog.wideKeysFrom ·)))=true:=by kernel_rfl
theorem j4_18:(Rows.tollJoinsSpec.vars.all (Tryz.prog.varReadable ·))=true:=by kernel_rfl
theorem j4_19:(Tryz.f4.resultTypes.all (fun t=>Tryz.prog.readableRec t&&decide (t<Tryz.prog.types.size)))=true:=by kernel_rfl
theorem j4_20:((Rows.tollJoinsRow.ifacesOut==Tryz.f4.resultTypes.toList.any (Tryz.prog.ifacesRec ·)))=true:=by kernel_rfl
theorem j4_21:((Rows.tollJoinsRow.loopsOut==Tryz.f4.resultTypes.toList.any (Tryz.prog.loopsFrom ·)))=true:=by kernel_rfl
theorem j4_22:((Rows.tollJoinsRow.plainKeys==Tryz.prog.plainKeys))=true:=by kernel_rfl
theorem j4_23:(Rows.tollJoinsRow.shortTexts.isNone)=true:=by kernel_rfl
theorem j4_24:(Tryz.prog.stopsHeard)=true:=by kernel_rfl
theorem j4_25:(Tryz.prog.mayEnter)=true:=by kernel_rfl
theorem j4_26:((Rows.tollJoinsRow.lifted==Tryz.prog.liftsFinal))=true:=by kernel_rfl
theorem j4_27:((Tryz.prog.make==some Rows.tollJoinsRow.make))=true:=by kernel_rfl
theorem j4_28:((Rows.tollJoinsRow.kinds==(if Rows.tollJoinsRow.domain.isEmpty then []else Tryz.f4.params.toList.map fun t=>match Tryz.prog.underlying t with|some (.int k)=>some k|_=>none)))=true:=by kernel_rfl
theorem j4_29:((Rows.tollJoinsRow.pinned==Rows.tollJoinsRow.pinnedBy))=true:=by kernel_rfl
theorem j4_30:((Rows.tollJoinsRow.veiled==(Tryz.f4.params.toList++Rows.tollJoinsSpec.plain.varTypes Tryz.prog++Tryz.f4.resultTypes.toList).any (Tryz.prog.veiledRec ·)))=true:=by kernel_rfl
theorem j4_31:(Rows.tollJoinsRow.veiledFits Tryz.prog Tryz.f4.params.toList (Tryz.f4.params.toList++Rows.tollJoinsSpec.plain.varTypes Tryz.prog++Tryz.f4.resultTypes.toList))=true:=by kernel_rfl
set_option maxRecDepth 100000 in
theorem j4:joinedFacts Tryz.prog 4 Tryz.f4 Rows.tollJoinsSpec Rows.tollJoinsRow=true:=B3x (B3x (B3x (B3x (B3x (B3x (B3x (B3x (B3x (B3x (B3x (B3x (B3x (B3x (B3x (B3x (B3x (B3x (B3x (B3x (B3x (B3x (B3x (B3x (B3x (B3x (B3x (B3x (B3x (B3x (B3x (j4_0) j4_1) j4_2) j4_3) j4_4) j4_5) j4_6) j4_7) j4_8) j4_9) j4_10) j4_11) j4_12) j4_13) j4_14) j4_15) j4_16) j4_17) j4_18) j4_19) j4_20) j4_21) j4_22) j4_23) j4_24) j4_25) j4_26) j4_27) j4_28) j4_29) j4_30) j4_31
end Go.Proofs.YtclejblcnfaeaaaGreat
end
section
namespace Go.Proofs.YtclejblcnfaeaaaGreat
open Go Go.Pal Go.Pal.To Go.Conc Go.ConcM Go.RowKit Go.ChangeShapes Go.WideShapes Go.ChangeAt
open View
theorem own_knob:ownKnob Tryz.prog.godebug=none:=by kernel_rfl
set_option maxRecDepth 100000 in
set_option maxHeartbeats 4000000 in
theorem joins_lifted(os:Os)(started:os.Started)(H:Type)(enc:TypeId×Value→H) :
  ReturnsInLeavingWide {} Tryz.checked os 4 .any (Rows.tollJoinsSpec.pre6 enc Tryz.prog Tryz.f4 Rows.tollJoinsRow.domain false) (Rows.tollJoinsSpec.post enc Tryz.prog Tryz.f4 false true false false):=by
 refine returnsInLeavingWide_of_change_sized (C:=Tryz.checked) own_knob started Tryz.func4
  (ChangeSpec.witness6 (enc:=enc) (C:=Tryz.checked) false ⟨#[],#[.agg #[.int .i64 0,.slice none 0 0],.slice none 0 0,.slice none 0 0,.agg #[.int .i64 0,.int .i64 0,.int .i64 0,.int .i64 0],.slice none 0 0],[]⟩ 8 kR kR kR kR) ?_
 intro W base args ds gs before hval0 hW _ _ _
 have hval:∀(j:Nat) t v,Tryz.f4.params[j]?=some t→args[j]?=some v→Value.okWide Tryz.prog W .any base t v:=hval0
 have hW':=hW
 obtain⟨p,q,hA0,hV,rfl,_,_⟩:=hW
 have hA:DataW.TrodAll enc Tryz.prog W 0 (fun _=>true) true Tryz.f4.params.toList args.toList ds p:=hA0
 rw [Tryz.params4]at hA hval
 obtain⟨v0,v1,v2,v3,v4,d0,d1,d2,d3,d4,p0,p1,p2,p3,p4,rfl,rfl,rfl,h0,h1,h2,h3,h4⟩:=trodAll_five hA
 obtain⟨rfl,rfl⟩:=trodVars_none hV
 clear hA0 hval0
 simp only [List.append_nil,List.append_assoc]at hW'
 have hlt:∀x∈p0++(p1++(p2++(p3++(p4)))),x.block<W.heap.size:=fun x hx=>by simpa using hW'.lt x hx
 obtain⟨P0,a0,m0,c0,u0,rfl,hu0,hm0,hst0⟩:=openM (hval 0 24 v0 rfl rfl) h0 (fun x hx=>hlt x (by simp only [List.mem_append];simp [hx]))
 obtain⟨a1,c1,l1,u1,rfl,hc1,hu1,hm1,hst1⟩:=openB (hval 1 42 v1 rfl rfl) h1 (fun x hx=>hlt x (by simp only [List.mem_append];simp [hx]))
 obtain⟨a2,c2,l2,u2,rfl,hc2,hu2,hm2,hst2⟩:=openB (hval 2 42 v2 rfl rfl) h2 (fun x hx=>hlt x (by simp only [List.mem_append];simp [hx]))
 obtain⟨xw,rfl,hst3⟩:=openA (hval 3 26 v3 rfl rfl) h3 (fun x hx=>hlt x (by simp only [List.mem_append];simp [hx]))
 obtain⟨a0_,cap0,ns,u4,rfl,hu4,hns,hst4⟩:=openL (hval 4 22 v4 rfl rfl) h4 (fun x hx=>hlt x (by simp only [List.mem_append];simp [hx]))
 obtain⟨hO0,la0,lb0⟩:=hu0.both hu1
 obtain⟨hO1,la1,lb1⟩:=hO0.both hu2
 obtain⟨hO2,la2,lb2⟩:=hO1.both hu4
 obtain⟨M,last,o,w',t',r1,r2,r3,r4⟩:=law_run (P:=Tryz.prog) (W:=W) (v:=(((u0.union u1).union u2).union u4)) (args:=[moV P0 a0 m0.length c0,.slice a1 l1.length c1,.slice a2 l2.length c2,xw.val,.slice a0_ ns.length cap0]) Tryz.func4 rfl kR hO2.ag hO2.ro (joins_run (hm0.le (((la0).trans la1).trans la2)) (hm1.le (((lb0).trans la1).trans la2)) (hm2.le ((lb1).trans la2)) hc1 hc2 (RowAt.le hns (lb2)))
 refine⟨M,last,o,w',t',r1,r2,r3,r4.mono fun x hp=>?_⟩
 obtain⟨rfl,hbel0,hos⟩:=hp
 have hbel:Below W.heap.size W w':=by
  have e:w'.os=W.os:=hos
  rw [←e]at hbel0
  exact hbel0
 exact⟨_,_,_,[],p0++(p1++(p2++(p3++(p4)))),[],hW',trodAll_mk1 (shut_bool Tryz.underlying4 true),trodAll_cons_mk (hst0 _ hbel) (trodAll_cons_mk (hst1 _ hbel) (trodAll_cons_mk (hst2 _ hbel) (trodAll_cons_mk (hst3 _ hbel) (trodAll_mk1 (hst4 _ hbel))))),Y,hbel.frame _,fun h=>by cases h⟩
theorem joins_said:Rows.TollJoinsSaid:=
 OpenClaim.holds_of_wide_leaving 4 Tryz.f4 rfl rfl rfl rfl rfl rfl rfl ⟨rfl,rfl,rfl,rfl,rfl⟩ rfl rfl rfl rfl rfl kR Tryz.func4 j4
  (of_decide_eq_true kR) (by unfold Func.isWrapper;first|(rw [if_pos (by decide +kernel)];kernel_rfl)|(rw [if_neg (by decide +kernel)];exact⟨Y,Y⟩))
  (fun os started H enc _=>joins_lifted os started H enc)
end Go.Proofs.YtclejblcnfaeaaaGreat
end
#print axioms Go.Proofs.YtclejblcnfaeaaaGreat.joins_said
