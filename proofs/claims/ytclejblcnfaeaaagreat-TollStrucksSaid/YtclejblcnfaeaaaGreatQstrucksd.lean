/- 'palfreylaw12.TollStrucks' returns true for every argument, whatever the goroutines of its calls do, and the arguments read as they did, as its row says it. No condition. -/
import Derived.Conc.Holds
import Derived.Conc.LeavingOf
import Derived.Handed
import Derived.JoinedOf
import Derived.OpenShut
import Derived.ProofKit
import Derived.WalkKit
import Derived.Test.YtclejblcnfaeaaaGreatQstrucksc
set_option linter.all false
section
namespace Go.Proofs.YtclejblcnfaeaaaGreat
open Go Go.Pal Go.Pal.To Go.Conc View
open Go.Proofs.Tryz
set_option maxHeartbeats 4000000
set_option maxRecDepth 20000
def dstK(i:Nat):Nat:=bif Nat.beq i 15 then 15 else i+46
theorem struckIs_len{P:Int}{d:List Int}{a b:List MA}{r:Int×List Int×List Int}(h:A8t P d a b r):r.2.1.length≤8∧r.2.2.length≤8:=by
 by_cases e:layE P d a b=0
 ·have hL:=layE_ok.1 e
  have:=struck_len hL h
  have h1:=hL.la
  have h2:=hL.lb
  omega
 ·unfold A8t at h
  rw [if_pos e]at h
  rw [h];exact⟨Nat.zero_le _,Nat.zero_le _⟩
theorem strucks_run{v:View}{P:Int}{aD aA aB a0:Option Addr}{cD cA cB cap0:Nat}{d:List Int}{p q:List MA}{x:MA}{ns:List Int}(hd:RowAt v aD (d.map intV))(hp:ActsAt v aA p)(hq:ActsAt v aB q)(hcA:p.length≤cA)(hcB:q.length≤cB)(hns:RowAt v a0 (ns.map (.int .i64))) :
  Run prog ⟨true,true⟩ (AtTop 5 10) v (G (Frame.enter prog 5 (List.toArray [moV P aD d.length cD,.slice aA p.length cA,.slice aB q.length cB,x.val,.slice a0 ns.length cap0]) .normal) []):=by
 refine top_run func5 Y nB ?_
 refine sw fun bx=>?_;refine sw fun bx=>?_
 refine Q_op fun ho=>A0u ho bod31 Y Y Y Y Y long_x ?_
 clear ho
 cases hlg:longB d.length p.length q.length with
 | true=>
  refine su ?_
  refine Q_op fun ho=>A0u ho bod17 Y Y Y Y Y held_x ?_
  clear ho
  refine su ?_
  exact⟨Y,Y,Y⟩
 | false=>
 have hlens:d.length≤20∧p.length≤20∧q.length≤20:=by
  unfold longB at hlg
  simp only [Bool.or_eq_false_iff,decide_eq_false_iff_not]at hlg
  omega
 refine su ?_
 rename_i b5
 obtain⟨b8,rfl⟩:∃x:Nat,x=bx:=⟨bx,rfl⟩
 refine A1d [5,6] [0,1,2,3,4,5,6,7,8,9,10,11,12,13] A1e Y kR ?_
 refine su ?_
 refine S_do kR (A0o [] [(b8,x.val.cells,26),(b5,(moV P aD d.length cD).cells,24)] Y bod18 Y Y Y Y Y A7s newBag_x (fun r1 β1 hR1=>⟨Le.refl _,kp,?_⟩))
 obtain⟨bg,rfl,hB⟩:=hR1
 refine su ?_
 refine S_do kR (A0o β1 [(b8,x.val.cells,26),(b5,(moV P aD d.length cD).cells,24)] Y bod32 Y Y Y Y Y cntA (several_x (RowAt.le hns (A0g _ _)) hB) (fun r2 β2 hR2=>⟨Le.refl _,kp,?_⟩))
 obtain⟨b1,b2,b3,c1,c2,c3,M,dw,aw,cw,xs,ys,ax,ay,az,cx,cy,cz,segM,segX,segY,segZ,rfl,rfl,hL1,hL2,hL3,hSM,hSX,hSY,hSZ,hM,hx4,hy4,hxa,hya⟩:=hR2
 refine su ?_
 obtain⟨β1,hβ1⟩:∃β1:A0e,β1=(b1,c1,24)::(b2,c2,42)::(b3,c3,42)::(segM++(segX++(segY++segZ))):=⟨_,rfl⟩
 refine XC_retire (β1:=β1) (β2:=[(b8,x.val.cells,26),(b5,(moV P aD d.length cD).cells,24)]) (by rw [hβ1];exact(show ∀p,Pal.cnt p (((b1,c1,24)::(b2,c2,42)::(b3,c3,42)::(segM++(segX++(segY++segZ))))++[(b8,x.val.cells,26),(b5,(moV P aD d.length cD).cells,24)])=Pal.cnt p (((b1,c1,24)::(b2,c2,42)::(b3,c3,42)::(segM++(segX++(segY++segZ))))++[(b8,x.val.cells,26),(b5,(moV P aD d.length cD).cells,24)])from cntA)) (fun hbk=>?_)
 have r1:=RowAt.own hbk (by rw [hβ1];exact cntL) hL1
 have r2:=RowAt.own hbk (by rw [hβ1];exact cntL) hL2
 have r3:=RowAt.own hbk (by rw [hβ1];exact cntL) hL3
 have rM:=RowAt.own hbk (by rw [hβ1];exact cntL) hSM
 have rX:ActsAt _ ax xs:=RowAt.own hbk (by rw [hβ1];exact cntL) hSX
 have rY:ActsAt _ ay ys:=RowAt.own hbk (by rw [hβ1];exact cntL) hSY
 have rZ:ActsAt _ az (ys++[x]):=RowAt.own hbk (by rw [hβ1];exact cntL) hSZ
 have hcase:∀i,i<3→∃m y z P' d' p' q',[[intV P,.slice aD d.length cD],[intV M,.slice aw dw.length cw],[intV M,.slice aw dw.length cw]][i]?=some m∧[Value.slice aA p.length cA,.slice ax xs.length cx,.slice ax xs.length cx][i]?=some y∧[Value.slice aB q.length cB,.slice ay ys.length cy,.slice az (ys.length+1) cz][i]?=some z∧CaseAt (v.union (A0c β1)) m y z P' d' p' q':=fun i hi=>by
  have hu:=A0g v (A0c β1)
  have hml:=hM.len
  have e:i=0∨i=1∨i=2:=oM
  rcases e with rfl|rfl|rfl
  ·exact⟨_,_,_,P,d,p,q,Y,Y,Y,⟨aD,cD,Y,hd.le hu⟩,⟨aA,cA,Y,hcA,hp.le hu⟩,⟨aB,cB,Y,hcB,hq.le hu⟩,hlens.1,hlens.2.1,hlens.2.2⟩
  ·exact⟨_,_,_,M,dw,xs,ys,Y,Y,Y,⟨aw,cw,Y,rM⟩,⟨ax,cx,Y,hSX.cap,rX⟩,⟨ay,cy,Y,hSY.cap,rY⟩,oM,oM,oM⟩
  ·refine⟨_,_,_,M,dw,xs,ys++[x],Y,Y,Y,⟨aw,cw,Y,rM⟩,⟨ax,cx,Y,hSX.cap,rX⟩,⟨az,cz,by rw [List.length_append];rfl,by rw [List.length_append];exact hSZ.cap,rZ⟩,oM,oM,by rw [List.length_append];show ys.length+1≤20;omega⟩
 generalize v.union (A0c β1)=v1 at *
 clear hβ1 hbk hL1 hL2 hL3 hSM hSX hSY hSZ hM hx4 hy4 hxa hya rM rX rY rZ hns hd hp hq hB
 refine A1q (α:=Nat) (fun i=>⟨[],[(14,.int .i64 i),(11,.slice (some ⟨b1,0,none⟩) 3 3),(12,.slice (some ⟨b2,0,none⟩) 3 3),(13,.slice (some ⟨b3,0,none⟩) 3 3)],[]⟩)
  (fun i u=>v1.Le u∧i≤3) (fun i=>3-i) 0 ⟨Y,rg,cntL⟩ (Le.refl _) ⟨Le.refl _,Nat.zero_le _⟩ ?_
 rintro i u ⟨hvu,hi⟩
 refine su ?_
 refine A1i Y (fun h=>?_) (fun h=>?_)
 ·have hlt:i<3:=by have:=of_decide_eq_true h;omega
  clear h
  obtain⟨m,y,z,P',d',p',q',hm,hy,hz,hcs⟩:=hcase i hlt
  obtain⟨⟨aE,cE,rfl,hdE⟩,⟨aP,cP,rfl,hcP,hpE⟩,⟨aQ,cQ,rfl,hcQ,hqE⟩,hld,hlp,hlq⟩:=hcs
  obtain⟨b1',o1,k1,d1,e1,f1,e1',hv1,hc1⟩:=RowAt.recs (k:=2) (xs:=[[intV P,.slice aD d.length cD],[intV M,.slice aw dw.length cw],[intV M,.slice aw dw.length cw]]) (RowAt.le r1 hvu) sM dM (i:=i) hlt
  have hc1':=hc1 i hlt
  rw [show([[intV P,.slice aD d.length cD],[intV M,.slice aw dw.length cw],[intV M,.slice aw dw.length cw]]:List (List Value))[i]'hlt=[intV P',.slice aE d'.length cE]from by
   have:=List.getElem?_eq_getElem (l:=([[intV P,.slice aD d.length cD],[intV M,.slice aw dw.length cw],[intV M,.slice aw dw.length cw]]:List (List Value))) (i:=i) hlt
   rw [this]at hm
   exact Option.some.inj hm]at hc1'
  obtain⟨b2',o2,k2,d2,e2,f2,e2',hv2,hc2⟩:=row_cell (RowAt.le r2 hvu) hy
  obtain⟨b3',o3,k3,d3,e3,f3,e3',hv3,hc3⟩:=row_cell (RowAt.le r3 hvu) hz
  clear hc1 hm hy hz
  cases e1'
  cases e2'
  cases e3'
  replace hdE:=hdE.le hvu
  replace hpE:=hpE.le hvu
  replace hqE:=hqE.le hvu
  refine su ?_
  refine A1d [4,9,14,15,16] [0,1,2,3,5,6,7,8,10,11,12,13,4,9,14,15,16,17,18] A1e Y kR ?_
  refine su ?_
  refine A0s tab i Y Y Y kR Y Y Y Y Y hlt ?_
  refine su ?_
  refine A8v tab Y Y Y kR Y hv1 (A1g tab (x:=[intV P',.slice aE d'.length cE]) Y Y Y hc1') ?_
  refine su ?_
  refine A0s tab i Y Y Y kR Y Y Y Y Y hlt ?_
  refine su ?_
  refine A8v tab Y Y Y kR Y hv2 (A0l tab Y Y Y (by rw [Nat.mul_one];exact hc2)) ?_
  refine su ?_
  refine A0s tab i Y Y Y kR Y Y Y Y Y hlt ?_
  refine su ?_
  refine A8v tab Y Y Y kR Y hv3 (A0l tab Y Y Y (by rw [Nat.mul_one];exact hc3)) ?_
  refine su ?_
  refine S_tree (Sp:=spL P' d' p' q') (pre:=fun _=>[]) [4,9,14,15] dstK dM dM (fun j hj=>?_) dM dM (fun j hj=>?_) (by repeat (first|exact trivial|(refine⟨?_,?_⟩;focus exact ib))) kR (fun j hj c hc u' hu'=>?_) (fun c hc hz=>?_)
  ·simp only [List.mem_cons,List.not_mem_nil,or_false]at hj
   rcases hj with rfl|rfl|rfl|rfl<;>rfl
  ·simp only [List.mem_cons,List.not_mem_nil,or_false]at hj
   rcases hj with rfl|rfl|rfl|rfl<;>exact⟨fun o ho=>by cases ho;rfl,rfl⟩
  ·simp only [List.mem_cons,List.not_mem_nil,or_false]at hj
   rcases hj with rfl|rfl|rfl|rfl
   ·exact A0o [] _ Y bod21 Y Y Y Y Y A7s (ownMorn_x ((hdE.le hu').le (A0g _ _)) oM) (fun y β' hR=>⟨Y,_,_,hR,Y⟩)
   ·exact A0o [] _ Y bod33 Y Y Y Y Y A7s (ownActs_x ((hpE.le hu').le (A0g _ _)) oM) (fun y β' hR=>⟨Y,_,_,hR,Y⟩)
   ·exact A0o [] _ Y bod33 Y Y Y Y Y A7s (ownActs_x ((hqE.le hu').le (A0g _ _)) oM) (fun y β' hR=>⟨Y,_,_,hR,Y⟩)
   ·exact A8z tab Y Y Y Y (fun b=>⟨Y,_,_,⟨b,Y,Y⟩,Y⟩)
  obtain⟨a4,c4,e4,hS4⟩:∃a c',(c 4).1=moV P' a d'.length c'∧OwnS 3 1 (c 4).2 a d'.length c' (d'.map intV):=hc 4 dM dM
  obtain⟨a9,c9,e9,hS9⟩:OwnI 26 4 (c 9).1 (c 9).2 p'.length (p'.map MA.cells).flatten:=hc 9 dM dM
  obtain⟨a14,c14,e14,hS14⟩:OwnI 26 4 (c 14).1 (c 14).2 q'.length (q'.map MA.cells).flatten:=hc 14 dM dM
  obtain⟨b15,e15,f15⟩:∃b,(c 15).1 = .pointer (some ⟨b,0,none⟩)∧(c 15).2=[(b,(Value.agg (List.toArray [.int .i64 0,.slice none 0 0])).cells,24)]:=hc 15 dM dM
  simp only [netR,netβ,e4,e9,e14,e15,f15]
  generalize (c 4).2=sgA at hS4⊢
  generalize (c 9).2=sgB at hS9⊢
  generalize (c 14).2=sgC at hS14⊢
  clear hc hz e4 e9 e14 e15 f15
  refine su ?_
  rw [putV_mo]
  refine A8x (β1:=sgA++(sgB++sgC)) (β2:=[(b15,(moV P' a4 d'.length c4).cells,24)]) cntA (fun hbk2=>?_)
  have rA:=RowAt.own hbk2 (by exact cntL) hS4
  have rB:ActsAt _ a9 p':=RowAt.own hbk2 (by exact cntL) hS9
  have rC:ActsAt _ a14 q':=RowAt.own hbk2 (by exact cntL) hS14
  have hu2:=A0g u (A0c (sgA++(sgB++sgC)))
  replace hvu:=hvu.trans hu2
  replace hv1:=hu2 _ _ hv1
  replace hv2:=hu2 _ _ hv2
  replace hv3:=hu2 _ _ hv3
  replace hdE:=hdE.le hu2
  replace hpE:=hpE.le hu2
  replace hqE:=hqE.le hu2
  have hdl:d'.length<2^30:=oM
  have hpl:p'.length<2^30:=oM
  have hql:q'.length<2^30:=oM
  replace hc2:d2[0+i*1]?=some (.slice aP p'.length cP):=by rw [Nat.mul_one];exact hc2
  replace hc3:d3[0+i*1]?=some (.slice aQ q'.length cQ):=by rw [Nat.mul_one];exact hc3
  generalize u.union (A0c (sgA++(sgB++sgC)))=u1 at *
  clear hu2 hbk2 hS4 hS9 hS14 r1 r2 r3 hcase u
  refine Q_op fun ho=>A1p ho bod40 Y Y Y Y Y (struck_x (P:=P') (cD:=c4) (cA:=c9) (cB:=c14) rA hdl rB rC hpl hql) (fun y u2 hl hR=>?_)
  clear ho
  replace rA:=rA.le hl
  replace rB:=rB.le hl
  replace rC:=rC.le hl
  replace hvu:=hvu.trans hl
  replace hv1:=hl _ _ hv1
  replace hv2:=hl _ _ hv2
  replace hv3:=hl _ _ hv3
  replace hdE:=hdE.le hl
  replace hpE:=hpE.le hl
  replace hqE:=hqE.le hl
  clear hl
  obtain⟨a5,c5,a6,c6,r,rfl,hr5,hr6,hr⟩:=hR
  refine su ?_
  refine A1d [12] [0,1,2,3,4,5,6,7,8,9,10,11,12,13,14,15,16,17,18,19] A1e Y kR ?_
  refine su ?_
  refine A0s tab i Y Y Y kR Y Y Y Y Y hlt ?_
  refine su ?_
  refine A8v tab Y Y Y kR Y hv1 (A1g tab (x:=[intV P',.slice aE d'.length cE]) Y Y Y hc1') ?_
  refine su ?_
  refine A0s tab i Y Y Y kR Y Y Y Y Y hlt ?_
  refine su ?_
  refine A8v tab Y Y Y kR Y hv2 (A0l tab Y Y Y hc2) ?_
  refine su ?_
  refine A0s tab i Y Y Y kR Y Y Y Y Y hlt ?_
  refine su ?_
  refine A8v tab Y Y Y kR Y hv3 (A0l tab Y Y Y hc3) ?_
  refine su ?_
  refine S_do kR (A1p Y bod41 Y Y Y Y Y (struckR_x (mn:=⟨true,true⟩) (P:=P') (cD:=cE) (cA:=cP) (cB:=cQ) hdE hdl hpE hqE hpl hql hcP hcQ) (fun y u3 hl hR=>⟨hl,kp,?_⟩))
  replace hr5:=hr5.le hl
  replace hr6:=hr6.le hl
  replace rA:=rA.le hl
  replace rB:=rB.le hl
  replace rC:=rC.le hl
  replace hvu:=hvu.trans hl
  replace hv1:=hl _ _ hv1
  replace hv2:=hl _ _ hv2
  replace hv3:=hl _ _ hv3
  replace hdE:=hdE.le hl
  replace hpE:=hpE.le hl
  replace hqE:=hqE.le hl
  clear hl
  obtain⟨a7,c7,a8,c8,r',rfl,hr7,hr8,hone⟩:=hR
  obtain rfl:=hone r hr
  have hrl:=struckIs_len hr
  clear hone
  obtain⟨re,rl,rk⟩:=r
  dsimp only at hr5 hr6 hr7 hr8 hrl
  refine su ?_
  refine XC_lex A1e Y kR ?_
  refine su ?_
  rw [show(re != re)=false from by simp]
  refine su ?_
  refine A2w bod39 Y Y Y Y Y (A5v (A9n (cA:=c5) (cB:=c7) hr5 hr7 (show rl.length<2^62 by omega) (show rl.length<2^62 by omega))) ?_
  refine su ?_
  refine A2w bod39 Y Y Y Y Y (A5v (A9n (cA:=c6) (cB:=c8) hr6 hr8 (show rk.length<2^62 by omega) (show rk.length<2^62 by omega))) ?_
  refine su ?_
  refine A1m tab i Y Y Y Y Y Y Y hlt ?_
  refine su ?_
  refine A4l tab Y Y Y hv1 (A1g tab (x:=[intV P',.slice aE d'.length cE]) Y Y Y hc1') ?_
  refine su ?_
  refine A2w bod24 Y Y Y Y Y (sameMorns_x (P:=P') (cD:=c4) (cE:=cE) rA hdE hdl) ?_
  refine su ?_
  refine A1m tab i Y Y Y Y Y Y Y hlt ?_
  refine su ?_
  refine A4l tab Y Y Y hv2 (A0l tab Y Y Y hc2) ?_
  refine su ?_
  refine A2w bod38 Y Y Y Y Y (A5v (sameActs_x (cA:=c9) (cB:=cP) rB hpE oM oM)) ?_
  refine su ?_
  refine A1m tab i Y Y Y Y Y Y Y hlt ?_
  refine su ?_
  refine A4l tab Y Y Y hv3 (A0l tab Y Y Y hc3) ?_
  refine su ?_
  refine A2w bod38 Y Y Y Y Y (A5v (sameActs_x (cA:=c14) (cB:=cQ) rC hqE oM oM)) ?_
  refine su ?_
  exact A0b ⟨i+1,_,oM,⟨Y,rg,cntL⟩,Le.refl _,hvu,hlt⟩
 ·have hin:i=3:=by have:=of_decide_eq_false h;omega
  clear h
  refine su ?_
  refine Q_op fun ho=>A0u ho bod17 Y Y Y Y Y held_x ?_
  clear ho
  refine su ?_
  exact⟨Y,Y,Y⟩
end Go.Proofs.YtclejblcnfaeaaaGreat
end
section
namespace Go.Proofs.YtclejblcnfaeaaaGreat
open Go Go.ChangeShapes
theorem B2v{a b:Bool}(ha:a=true)(hb:b=true):(a&&b)=true:=by rw [ha,hb];rfl
theorem j5_0:(Rows.tollStrucksRow.wf (OpenSpec.ofChange Rows.tollStrucksSpec))=true:=by kernel_rfl
theorem j5_1:(laidOutB Tryz.prog)=true:=by kernel_rfl
theorem j5_2:(mapsRowed Tryz.prog)=true:=by kernel_rfl
theorem j5_3:(Tryz.f5.params.all (Tryz.prog.readableRec ·))=true:=by kernel_rfl
theorem j5_4:(namedTie Tryz.prog Rows.tollStrucksRow.named Rows.tollStrucksSpec.vars)=true:=by kernel_rfl
theorem j5_5:((Rows.tollStrucksRow.stops == []))=true:=by kernel_rfl
theorem j5_6:((Tryz.prog.stops == []))=true:=by kernel_rfl
theorem j5_7:((Rows.tollStrucksRow.knobs == []))=true:=by kernel_rfl
theorem j5_8:((Tryz.prog.stopKnobs == []))=true:=by kernel_rfl
theorem j5_9:((Rows.tollStrucksRow.inPlace==Tryz.prog.inPlace 5))=true:=by kernel_rfl
theorem j5_10:((Rows.tollStrucksRow.unfollowed==Tryz.prog.unfollowed 5))=true:=by kernel_rfl
theorem j5_11:((Rows.tollStrucksRow.recurses==Tryz.prog.recurses 5))=true:=by kernel_rfl
theorem j5_12:((Rows.tollStrucksRow.named==Tryz.prog.varsNamed 5))=true:=by kernel_rfl
theorem j5_13:((Rows.tollStrucksRow.maps==(Tryz.f5.params.toList++Rows.tollStrucksSpec.plain.varTypes Tryz.prog).any (Tryz.prog.mapsRec ·)))=true:=by kernel_rfl
theorem j5_14:((Rows.tollStrucksRow.ifaces==(Tryz.f5.params.toList++Rows.tollStrucksSpec.plain.varTypes Tryz.prog).any (Tryz.prog.ifacesRec ·)))=true:=by kernel_rfl
theorem j5_15:((Rows.tollStrucksRow.mapsOut==Tryz.prog.mapsAmong Tryz.f5.resultTypes.toList))=true:=by kernel_rfl
theorem j5_16:((Rows.tollStrucksRow.loops==(Tryz.f5.params.toList++Rows.tollStrucksSpec.plain.varTypes Tryz.prog).any (Tryz.prog.loopsFrom ·)))=true:=by kernel_rfl
theorem j5_17:((Rows.tollStrucksRow.wideKeys==(Tryz.f5.params.toList++Rows.tollStrucksSpec.plain.varTypes Tryz.prog++Tryz.f5.resultTypes.toList).any (Tryz.prog.wideKeysFrom ·)))=true:=by kernel_rfl
theorem j5_18:(Rows.tollStrucksSpec.vars.all (Tryz.prog.varReadable ·))=true:=by kernel_rfl
theorem j5_19:(Tryz.f5.resultTypes.all (fun t=>Tryz.prog.readableRec t&&decide (t<Tryz.prog.types.size)))=true:=by kernel_rfl
theorem j5_20:((Rows.tollStrucksRow.ifacesOut==Tryz.f5.resultTypes.toList.any (Tryz.prog.ifacesRec ·)))=true:=by kernel_rfl
theorem j5_21:((Rows.tollStrucksRow.loopsOut==Tryz.f5.resultTypes.toList.any (Tryz.prog.loopsFrom ·)))=true:=by kernel_rfl
theorem j5_22:((Rows.tollStrucksRow.plainKeys==Tryz.prog.plainKeys))=true:=by kernel_rfl
theorem j5_23:(Rows.tollStrucksRow.shortTexts.isNone)=true:=by kernel_rfl
theorem j5_24:(Tryz.prog.stopsHeard)=true:=by kernel_rfl
theorem j5_25:(Tryz.prog.mayEnter)=true:=by kernel_rfl
theorem j5_26:((Rows.tollStrucksRow.lifted==Tryz.prog.liftsFinal))=true:=by kernel_rfl
theorem j5_27:((Tryz.prog.make==some Rows.tollStrucksRow.make))=true:=by kernel_rfl
theorem j5_28:((Rows.tollStrucksRow.kinds==(if Rows.tollStrucksRow.domain.isEmpty then []else Tryz.f5.params.toList.map fun t=>match Tryz.prog.underlying t with|some (.int k)=>some k|_=>none)))=true:=by kernel_rfl
theorem j5_29:((Rows.tollStrucksRow.pinned==Rows.tollStrucksRow.pinnedBy))=true:=by kernel_rfl
theorem j5_30:((Rows.tollStrucksRow.veiled==(Tryz.f5.params.toList++Rows.tollStrucksSpec.plain.varTypes Tryz.prog++Tryz.f5.resultTypes.toList).any (Tryz.prog.veiledRec ·)))=true:=by kernel_rfl
theorem j5_31:(Rows.tollStrucksRow.veiledFits Tryz.prog Tryz.f5.params.toList (Tryz.f5.params.toList++Rows.tollStrucksSpec.plain.varTypes Tryz.prog++Tryz.f5.resultTypes.toList))=true:=by kernel_rfl
set_option maxRecDepth 100000 in
theorem j5:joinedFacts Tryz.prog 5 Tryz.f5 Rows.tollStrucksSpec Rows.tollStrucksRow=true:=B2v (B2v (B2v (B2v (B2v (B2v (B2v (B2v (B2v (B2v (B2v (B2v (B2v (B2v (B2v (B2v (B2v (B2v (B2v (B2v (B2v (B2v (B2v (B2v (B2v (B2v (B2v (B2v (B2v (B2v (B2v (j5_0) j5_1) j5_2) j5_3) j5_4) j5_5) j5_6) j5_7) j5_8) j5_9) j5_10) j5_11) j5_12) j5_13) j5_14) j5_15) j5_16) j5_17) j5_18) j5_19) j5_20) j5_21) j5_22) j5_23) j5_24) j5_25) j5_26) j5_27) j5_28) j5_29) j5_30) j5_31
end Go.Proofs.YtclejblcnfaeaaaGreat
end
section
namespace Go.Proofs.YtclejblcnfaeaaaGreat
open Go Go.Pal Go.Pal.To Go.Conc Go.ConcM Go.RowKit Go.ChangeShapes Go.WideShapes Go.ChangeAt
open View
theorem own_knob:ownKnob Tryz.prog.godebug=none:=by kernel_rfl
set_option maxRecDepth 100000 in
set_option maxHeartbeats 4000000 in
theorem strucks_lifted(os:Os)(started:os.Started)(H:Type)(enc:TypeId×Value→H) :
  ReturnsInLeavingWide {} Tryz.checked os 5 .any (Rows.tollStrucksSpec.pre6 enc Tryz.prog Tryz.f5 Rows.tollStrucksRow.domain false) (Rows.tollStrucksSpec.post enc Tryz.prog Tryz.f5 false true false false):=by
 refine returnsInLeavingWide_of_change_sized (C:=Tryz.checked) own_knob started Tryz.func5
  (ChangeSpec.witness6 (enc:=enc) (C:=Tryz.checked) false ⟨#[],#[.agg #[.int .i64 0,.slice none 0 0],.slice none 0 0,.slice none 0 0,.agg #[.int .i64 0,.int .i64 0,.int .i64 0,.int .i64 0],.slice none 0 0],[]⟩ 8 kR kR kR kR) ?_
 intro W base args ds gs before hval0 hW _ _ _
 have hval:∀(j:Nat) t v,Tryz.f5.params[j]?=some t→args[j]?=some v→Value.okWide Tryz.prog W .any base t v:=hval0
 have hW':=hW
 obtain⟨p,q,hA0,hV,rfl,_,_⟩:=hW
 have hA:DataW.TrodAll enc Tryz.prog W 0 (fun _=>true) true Tryz.f5.params.toList args.toList ds p:=hA0
 rw [Tryz.params5]at hA hval
 obtain⟨v0,v1,v2,v3,v4,d0,d1,d2,d3,d4,p0,p1,p2,p3,p4,rfl,rfl,rfl,h0,h1,h2,h3,h4⟩:=trodAll_five hA
 obtain⟨rfl,rfl⟩:=trodVars_none hV
 clear hA0 hval0
 simp only [List.append_nil,List.append_assoc]at hW'
 have hlt:∀x∈p0++(p1++(p2++(p3++(p4)))),x.block<W.heap.size:=fun x hx=>by simpa using hW'.lt x hx
 obtain⟨P0,a0,m0,c0,u0,rfl,hu0,hm0,hst0⟩:=openM (hval 0 24 v0 rfl rfl) h0 (fun x hx=>hlt x (by simp only [List.mem_append];simp [hx]))
 obtain⟨a1,c1,l1,u1,rfl,hc1,hu1,hm1,hst1⟩:=openB (hval 1 42 v1 rfl rfl) h1 (fun x hx=>hlt x (by simp only [List.mem_append];simp [hx]))
 obtain⟨a2,c2,l2,u2,rfl,hc2,hu2,hm2,hst2⟩:=openB (hval 2 42 v2 rfl rfl) h2 (fun x hx=>hlt x (by simp only [List.mem_append];simp [hx]))
 obtain⟨xw,rfl,hst3⟩:=openA (hval 3 26 v3 rfl rfl) h3 (fun x hx=>hlt x (by simp only [List.mem_append];simp [hx]))
 obtain⟨a0_,cap0,ns,u4,rfl,hu4,hns,hst4⟩:=openL (hval 4 22 v4 rfl rfl) h4 (fun x hx=>hlt x (by simp only [List.mem_append];simp [hx]))
 obtain⟨hO0,la0,lb0⟩:=hu0.both hu1
 obtain⟨hO1,la1,lb1⟩:=hO0.both hu2
 obtain⟨hO2,la2,lb2⟩:=hO1.both hu4
 obtain⟨M,last,o,w',t',r1,r2,r3,r4⟩:=law_run (P:=Tryz.prog) (W:=W) (v:=(((u0.union u1).union u2).union u4)) (args:=[moV P0 a0 m0.length c0,.slice a1 l1.length c1,.slice a2 l2.length c2,xw.val,.slice a0_ ns.length cap0]) Tryz.func5 rfl kR hO2.ag hO2.ro (strucks_run (hm0.le (((la0).trans la1).trans la2)) (hm1.le (((lb0).trans la1).trans la2)) (hm2.le ((lb1).trans la2)) hc1 hc2 (RowAt.le hns (lb2)))
 refine⟨M,last,o,w',t',r1,r2,r3,r4.mono fun x hp=>?_⟩
 obtain⟨rfl,hbel0,hos⟩:=hp
 have hbel:Below W.heap.size W w':=by
  have e:w'.os=W.os:=hos
  rw [←e]at hbel0
  exact hbel0
 exact⟨_,_,_,[],p0++(p1++(p2++(p3++(p4)))),[],hW',trodAll_mk1 (shut_bool Tryz.underlying4 true),trodAll_cons_mk (hst0 _ hbel) (trodAll_cons_mk (hst1 _ hbel) (trodAll_cons_mk (hst2 _ hbel) (trodAll_cons_mk (hst3 _ hbel) (trodAll_mk1 (hst4 _ hbel))))),Y,hbel.frame _,fun h=>by cases h⟩
theorem strucks_said:Rows.TollStrucksSaid:=
 OpenClaim.holds_of_wide_leaving 5 Tryz.f5 rfl rfl rfl rfl rfl rfl rfl ⟨rfl,rfl,rfl,rfl,rfl⟩ rfl rfl rfl rfl rfl kR Tryz.func5 j5
  (of_decide_eq_true kR) (by unfold Func.isWrapper;first|(rw [if_pos (by decide +kernel)];kernel_rfl)|(rw [if_neg (by decide +kernel)];exact⟨Y,Y⟩))
  (fun os started H enc _=>strucks_lifted os started H enc)
end Go.Proofs.YtclejblcnfaeaaaGreat
end
#print axioms Go.Proofs.YtclejblcnfaeaaaGreat.strucks_said
