/- 'palfreylaw12.TollKnown' returns true for every argument, whatever the goroutines of its calls do, and the arguments read as they did, as its row says it. No condition. -/
import Derived.ChangeSame
import Derived.ChangeVars
import Derived.Conc.Holds
import Derived.Conc.LeavingOf
import Derived.Deep.Fields
import Derived.Deep.Slices
import Derived.Handed
import Derived.JoinedOf
import Derived.LaidHandle
import Derived.LaidLaws
import Derived.Lib.SmallJoins
import Derived.OpenShut
import Derived.ProofKit
import Derived.SevenTiedAt
import Derived.Test.YtclejblcnfaeaaaGreatDoorCards
import Derived.Test.YtclejblcnfaeaaaGreatDoorTie
import Derived.WalkKit
import Derived.Test.YtclejblcnfaeaaaGreatDoorQknownc
set_option linter.all false
section
namespace Go.Proofs.YtclejblcnfaeaaaGreatDoor
open Go Go.Pal Go.Pal.To Go.Conc View
open Go.Proofs.Tryz
set_option maxHeartbeats 4000000
set_option maxRecDepth 20000
theorem putV_tx{P e:Int}{ad aq:Option Addr}{nd cd n cq:Nat}:(putV (Value.agg trZ).cells.toList 0 ((List.toArray [Value.agg (trC P ad nd cd aq n cq),intV e])[0]).cells.toList).toArray=trC P ad nd cd aq n cq:=rfl
noncomputable def tlC:Nat→Code→Code
 | 0,c=>c
 | n+1,.seq _ c=>tlC n c
 | _+1,_=>.skip
noncomputable def knB:Code:=match f6.body with|some c=>c|none=>.skip
theorem known_h{w:View}(hg:ErrT w):XC prog ⟨true,true⟩ none f6.ntmps (tlC 38 knB) (TopQ 0) ⟨[],[(0,.bool false)],[]⟩ w:=by
 refine A4i ?_
 refine A7o ?_
 repeat (first|refine sr ?_|refine qb fun bx=>?_)
 refine Q_op fun ho=>A1p ho bod33 Y Y Y Y Y fair_x (fun x w hl hx=>?_)
 clear ho
 replace hg:=hg.le hl
 clear hl
 obtain⟨aF,cF,rfl,rF⟩:=hx
 refine Q_op fun ho=>A1p ho bod40 Y Y Y Y Y bkBack_x (fun x w hl hx=>?_)
 clear ho
 replace hg:=hg.le hl
 replace rF:=rF.le hl
 clear hl
 obtain⟨aG,cG,rfl,rG⟩:=hx
 refine Q_op fun ho=>A1p ho bod44 Y Y Y Y Y bkOver_x (fun x w hl hx=>?_)
 clear ho
 replace hg:=hg.le hl
 replace rF:=rF.le hl
 replace rG:=rG.le hl
 clear hl
 obtain⟨aH,cH,rfl,rH⟩:=hx
 refine Q_op fun ho=>A1p ho bod51 Y Y Y Y Y (struck_x rF dM rG rH dM dM) (fun x w hl hx=>?_)
 clear ho
 replace hg:=hg.le hl
 replace rF:=rF.le hl
 replace rG:=rG.le hl
 replace rH:=rH.le hl
 clear hl
 obtain⟨a1,c1,a2,c2,r,rfl,r1,r2,hr⟩:=hx
 obtain rfl:=s_over hr
 clear hr
 clear rF rG rH
 repeat (first|refine sr ?_|refine qb fun bx=>?_)
 clear r1 r2
 refine Q_op fun ho=>A1p ho bod33 Y Y Y Y Y fair_x (fun x w hl hx=>?_)
 clear ho
 replace hg:=hg.le hl
 clear hl
 obtain⟨aF,cF,rfl,rF⟩:=hx
 refine Q_op fun ho=>A1p ho bod40 Y Y Y Y Y bkBack_x (fun x w hl hx=>?_)
 clear ho
 replace hg:=hg.le hl
 replace rF:=rF.le hl
 clear hl
 obtain⟨aG,cG,rfl,rG⟩:=hx
 refine Q_op fun ho=>A1p ho bod40 Y Y Y Y Y bkBack_x (fun x w hl hx=>?_)
 clear ho
 replace hg:=hg.le hl
 replace rF:=rF.le hl
 replace rG:=rG.le hl
 clear hl
 obtain⟨aH,cH,rfl,rH⟩:=hx
 refine Q_op fun ho=>A1p ho bod51 Y Y Y Y Y (struck_x rF dM rG rH dM dM) (fun x w hl hx=>?_)
 clear ho
 replace hg:=hg.le hl
 replace rF:=rF.le hl
 replace rG:=rG.le hl
 replace rH:=rH.le hl
 clear hl
 obtain⟨a3,c3,a4,c4,r,rfl,r3,r4,hr⟩:=hx
 obtain rfl:=s_back hr
 clear hr
 clear rF rG rH
 repeat (first|refine sr ?_|refine qb fun bx=>?_)
 refine Q_op fun ho=>A3w tab ho Y Y Y Y Y Y Y Y Y (fun bL cL hL=>?_)
 clear ho
 refine A8x (β1:=[(bL,cL,3)]) (β2:=[]) cntA (fun hbk=>?_)
 have rL:RowAt _ (some ⟨bL,0,none⟩) (([0]:List Int).map intV):=RowAt.own hbk (by exact cntL) hL
 replace hg:=hg.le (A0g w (A0c [(bL,cL,3)]))
 replace r3:=r3.le (A0g w (A0c [(bL,cL,3)]))
 replace r4:=r4.le (A0g w (A0c [(bL,cL,3)]))
 clear hbk hL
 generalize w.union (A0c [(bL,cL,3)])=w at *
 refine Q_op fun ho=>A0u ho bod24 Y Y Y Y Y (A5v (A9n (xs:=[0]) (ys:=[0]) r3 rL dM dM)) ?_
 clear ho
 clear rL
 repeat (first|refine sr ?_|refine qb fun bx=>?_)
 refine Q_op fun ho=>A3w tab ho Y Y Y Y Y Y Y Y Y (fun bL cL hL=>?_)
 clear ho
 refine A8x (β1:=[(bL,cL,3)]) (β2:=[]) cntA (fun hbk=>?_)
 have rL:RowAt _ (some ⟨bL,0,none⟩) (([0]:List Int).map intV):=RowAt.own hbk (by exact cntL) hL
 replace hg:=hg.le (A0g w (A0c [(bL,cL,3)]))
 replace r3:=r3.le (A0g w (A0c [(bL,cL,3)]))
 replace r4:=r4.le (A0g w (A0c [(bL,cL,3)]))
 clear hbk hL
 generalize w.union (A0c [(bL,cL,3)])=w at *
 refine Q_op fun ho=>A0u ho bod24 Y Y Y Y Y (A5v (A9n (xs:=[0]) (ys:=[0]) r4 rL dM dM)) ?_
 clear ho
 clear rL
 repeat (first|refine sr ?_|refine qb fun bx=>?_)
 exact⟨Y,Y,Y⟩
theorem known_g{w:View}(hg:ErrT w):XC prog ⟨true,true⟩ none f6.ntmps (tlC 34 knB) (TopQ 0) ⟨[],[(0,.bool false)],[]⟩ w:=by
 refine A4i ?_
 refine A7o ?_
 repeat (first|refine sr ?_|refine qb fun bx=>?_)
 refine Q_op fun ho=>A1p ho bod49 Y Y Y Y Y quiet_x (fun x w hl hx=>?_)
 clear ho
 replace hg:=hg.le hl
 clear hl
 obtain⟨aF,cF,rfl,rF⟩:=hx
 refine Q_op fun ho=>A1p ho bod50 Y Y Y Y Y bkRound_x (fun x w hl hx=>?_)
 clear ho
 replace hg:=hg.le hl
 replace rF:=rF.le hl
 clear hl
 obtain⟨aG,cG,rfl,rG⟩:=hx
 refine Q_op fun ho=>A1p ho bod50 Y Y Y Y Y bkRound_x (fun x w hl hx=>?_)
 clear ho
 replace hg:=hg.le hl
 replace rF:=rF.le hl
 replace rG:=rG.le hl
 clear hl
 obtain⟨aH,cH,rfl,rH⟩:=hx
 refine Q_op fun ho=>A1p ho bod48 Y Y Y Y Y (join_x rF dM rG rH dM dM) (fun x w hl hx=>?_)
 clear ho
 replace hg:=hg.le hl
 replace rF:=rF.le hl
 replace rG:=rG.le hl
 replace rH:=rH.le hl
 clear hl
 rw [j_round]at hx;obtain⟨a3,c3,a4,c4,rfl,r3,r4⟩:=hx
 clear rF rG rH
 repeat (first|refine sr ?_|refine qb fun bx=>?_)
 refine Q_op fun ho=>A1p ho bod49 Y Y Y Y Y quiet_x (fun x w hl hx=>?_)
 clear ho
 replace hg:=hg.le hl
 replace r3:=r3.le hl
 replace r4:=r4.le hl
 clear hl
 obtain⟨aF,cF,rfl,rF⟩:=hx
 refine Q_op fun ho=>A1p ho bod50 Y Y Y Y Y bkRound_x (fun x w hl hx=>?_)
 clear ho
 replace hg:=hg.le hl
 replace r3:=r3.le hl
 replace r4:=r4.le hl
 replace rF:=rF.le hl
 clear hl
 obtain⟨aG,cG,rfl,rG⟩:=hx
 refine Q_op fun ho=>A1p ho bod44 Y Y Y Y Y bkOver_x (fun x w hl hx=>?_)
 clear ho
 replace hg:=hg.le hl
 replace r3:=r3.le hl
 replace r4:=r4.le hl
 replace rF:=rF.le hl
 replace rG:=rG.le hl
 clear hl
 obtain⟨aH,cH,rfl,rH⟩:=hx
 refine Q_op fun ho=>A1p ho bod46 Y Y Y Y Y (owners_x (h:=0) rF dM rG rH dM dM) (fun x w hl hx=>?_)
 clear ho
 replace hg:=hg.le hl
 replace r3:=r3.le hl
 replace r4:=r4.le hl
 replace rF:=rF.le hl
 replace rG:=rG.le hl
 replace rH:=rH.le hl
 clear hl
 obtain⟨a1,c1,r,rfl,r1,hr⟩:=hx
 obtain rfl:=o_round hr
 clear hr
 clear rF rG rH
 repeat (first|refine sr ?_|refine qb fun bx=>?_)
 refine Q_op fun ho=>A1p ho bod49 Y Y Y Y Y quiet_x (fun x w hl hx=>?_)
 clear ho
 replace hg:=hg.le hl
 replace r3:=r3.le hl
 replace r4:=r4.le hl
 replace r1:=r1.le hl
 clear hl
 obtain⟨aF,cF,rfl,rF⟩:=hx
 refine Q_op fun ho=>A1p ho bod50 Y Y Y Y Y bkRound_x (fun x w hl hx=>?_)
 clear ho
 replace hg:=hg.le hl
 replace r3:=r3.le hl
 replace r4:=r4.le hl
 replace r1:=r1.le hl
 replace rF:=rF.le hl
 clear hl
 obtain⟨aG,cG,rfl,rG⟩:=hx
 refine Q_op fun ho=>A1p ho bod44 Y Y Y Y Y bkOver_x (fun x w hl hx=>?_)
 clear ho
 replace hg:=hg.le hl
 replace r3:=r3.le hl
 replace r4:=r4.le hl
 replace r1:=r1.le hl
 replace rF:=rF.le hl
 replace rG:=rG.le hl
 clear hl
 obtain⟨aH,cH,rfl,rH⟩:=hx
 refine Q_op fun ho=>A0u ho bod47 Y Y Y Y Y (show Ret1 _ _ _ _ (.tuple (List.toArray [intV 2,intV 0])) _ from by have:=both_x (P:=2) (cD:=cF) (cA:=cG) (cB:=cH) (act:=1) rF dM rG rH dM dM;rw [b_round]at this;exact this) ?_
 clear ho
 clear rF rG rH
 repeat (first|refine sr ?_|refine qb fun bx=>?_)
 refine A6q (fun σ w'=>ErrT w'∧σ=⟨[],[(0,.bool false)],[]⟩) ?_ ?_
 rotate_left
 ·have hcut:=hg
  clear hcut
  repeat (first|refine st ?_|refine qb fun bx=>?_)
  refine Q_op fun ho=>A1p ho bod50 Y Y Y Y Y bkRound_x (fun x w hl hx=>?_)
  clear ho
  replace hg:=hg.le hl
  replace r3:=r3.le hl
  replace r4:=r4.le hl
  replace r1:=r1.le hl
  clear hl
  obtain⟨aG,cG,rfl,rG⟩:=hx
  refine Q_op fun ho=>A0u ho bod30 Y Y Y Y Y (A5v (sameActs_x (xs:=roundL) (ys:=roundL) r3 rG dM dM)) ?_
  clear ho
  clear rG
  repeat (first|refine st ?_|refine qb fun bx=>?_)
  refine Q_op fun ho=>A3w tab ho Y Y Y Y Y Y Y Y Y (fun bL cL hL=>?_)
  clear ho
  refine A8x (β1:=[(bL,cL,3)]) (β2:=[]) cntA (fun hbk=>?_)
  have rL:RowAt _ (some ⟨bL,0,none⟩) (([0,0,0]:List Int).map intV):=RowAt.own hbk (by exact cntL) hL
  replace hg:=hg.le (A0g w (A0c [(bL,cL,3)]))
  replace r3:=r3.le (A0g w (A0c [(bL,cL,3)]))
  replace r4:=r4.le (A0g w (A0c [(bL,cL,3)]))
  replace r1:=r1.le (A0g w (A0c [(bL,cL,3)]))
  clear hbk hL
  generalize w.union (A0c [(bL,cL,3)])=w at *
  refine Q_op fun ho=>A0u ho bod24 Y Y Y Y Y (A5v (A9n (xs:=[0,0,0]) (ys:=[0,0,0]) r4 rL dM dM)) ?_
  clear ho
  clear rL
  repeat (first|refine st ?_|refine qb fun bx=>?_)
  refine Q_op fun ho=>A3w tab ho Y Y Y Y Y Y Y Y Y (fun bL cL hL=>?_)
  clear ho
  refine A8x (β1:=[(bL,cL,3)]) (β2:=[]) cntA (fun hbk=>?_)
  have rL:RowAt _ (some ⟨bL,0,none⟩) (([1]:List Int).map intV):=RowAt.own hbk (by exact cntL) hL
  replace hg:=hg.le (A0g w (A0c [(bL,cL,3)]))
  replace r3:=r3.le (A0g w (A0c [(bL,cL,3)]))
  replace r4:=r4.le (A0g w (A0c [(bL,cL,3)]))
  replace r1:=r1.le (A0g w (A0c [(bL,cL,3)]))
  clear hbk hL
  generalize w.union (A0c [(bL,cL,3)])=w at *
  refine Q_op fun ho=>A0u ho bod24 Y Y Y Y Y (A5v (A9n (xs:=[1]) (ys:=[1]) r1 rL dM dM)) ?_
  clear ho
  clear rL
  repeat (first|refine st ?_|refine qb fun bx=>?_)
  exact A0b ⟨_,_,⟨hg,Y⟩,⟨Y,rg,cntL⟩,Le.refl _⟩
 rintro σ w' ⟨hg,rfl⟩
 exact known_h hg
theorem known_f{w:View}(hg:ErrT w):XC prog ⟨true,true⟩ none f6.ntmps (tlC 28 knB) (TopQ 0) ⟨[],[(0,.bool false)],[]⟩ w:=by
 refine A4i ?_
 refine A7o ?_
 repeat (first|refine sr ?_|refine qb fun bx=>?_)
 refine Q_op fun ho=>A1p ho bod33 Y Y Y Y Y fair_x (fun x w hl hx=>?_)
 clear ho
 replace hg:=hg.le hl
 clear hl
 obtain⟨aF,cF,rfl,rF⟩:=hx
 refine Q_op fun ho=>A1p ho bod42 Y Y Y Y Y bkFirst_x (fun x w hl hx=>?_)
 clear ho
 replace hg:=hg.le hl
 replace rF:=rF.le hl
 clear hl
 obtain⟨aG,cG,rfl,rG⟩:=hx
 refine Q_op fun ho=>A1p ho bod41 Y Y Y Y Y bkSecond_x (fun x w hl hx=>?_)
 clear ho
 replace hg:=hg.le hl
 replace rF:=rF.le hl
 replace rG:=rG.le hl
 clear hl
 obtain⟨aH,cH,rfl,rH⟩:=hx
 refine Q_op fun ho=>A1p ho bod46 Y Y Y Y Y (owners_x (h:=0) rF dM rG rH dM dM) (fun x w hl hx=>?_)
 clear ho
 replace hg:=hg.le hl
 replace rF:=rF.le hl
 replace rG:=rG.le hl
 replace rH:=rH.le hl
 clear hl
 obtain⟨a1,c1,r,rfl,r1,hr⟩:=hx
 obtain rfl:=o_zero hr
 clear hr
 clear rF rG rH
 repeat (first|refine sr ?_|refine qb fun bx=>?_)
 refine Q_op fun ho=>A1p ho bod33 Y Y Y Y Y fair_x (fun x w hl hx=>?_)
 clear ho
 replace hg:=hg.le hl
 replace r1:=r1.le hl
 clear hl
 obtain⟨aF,cF,rfl,rF⟩:=hx
 refine Q_op fun ho=>A1p ho bod42 Y Y Y Y Y bkFirst_x (fun x w hl hx=>?_)
 clear ho
 replace hg:=hg.le hl
 replace r1:=r1.le hl
 replace rF:=rF.le hl
 clear hl
 obtain⟨aG,cG,rfl,rG⟩:=hx
 refine Q_op fun ho=>A1p ho bod41 Y Y Y Y Y bkSecond_x (fun x w hl hx=>?_)
 clear ho
 replace hg:=hg.le hl
 replace r1:=r1.le hl
 replace rF:=rF.le hl
 replace rG:=rG.le hl
 clear hl
 obtain⟨aH,cH,rfl,rH⟩:=hx
 refine Q_op fun ho=>A1p ho bod46 Y Y Y Y Y (owners_x (h:=1) rF dM rG rH dM dM) (fun x w hl hx=>?_)
 clear ho
 replace hg:=hg.le hl
 replace r1:=r1.le hl
 replace rF:=rF.le hl
 replace rG:=rG.le hl
 replace rH:=rH.le hl
 clear hl
 obtain⟨a2,c2,r,rfl,r2,hr⟩:=hx
 obtain rfl:=o_one hr
 clear hr
 clear rF rG rH
 repeat (first|refine sr ?_|refine qb fun bx=>?_)
 refine Q_op fun ho=>A1p ho bod33 Y Y Y Y Y fair_x (fun x w hl hx=>?_)
 clear ho
 replace hg:=hg.le hl
 replace r1:=r1.le hl
 replace r2:=r2.le hl
 clear hl
 obtain⟨aF,cF,rfl,rF⟩:=hx
 refine Q_op fun ho=>A1p ho bod42 Y Y Y Y Y bkFirst_x (fun x w hl hx=>?_)
 clear ho
 replace hg:=hg.le hl
 replace r1:=r1.le hl
 replace r2:=r2.le hl
 replace rF:=rF.le hl
 clear hl
 obtain⟨aG,cG,rfl,rG⟩:=hx
 refine Q_op fun ho=>A1p ho bod41 Y Y Y Y Y bkSecond_x (fun x w hl hx=>?_)
 clear ho
 replace hg:=hg.le hl
 replace r1:=r1.le hl
 replace r2:=r2.le hl
 replace rF:=rF.le hl
 replace rG:=rG.le hl
 clear hl
 obtain⟨aH,cH,rfl,rH⟩:=hx
 refine Q_op fun ho=>A1p ho bod46 Y Y Y Y Y (owners_x (h:=2) rF dM rG rH dM dM) (fun x w hl hx=>?_)
 clear ho
 replace hg:=hg.le hl
 replace r1:=r1.le hl
 replace r2:=r2.le hl
 replace rF:=rF.le hl
 replace rG:=rG.le hl
 replace rH:=rH.le hl
 clear hl
 obtain⟨a3,c3,r,rfl,r3,hr⟩:=hx
 obtain rfl:=o_two hr
 clear hr
 clear rF rG rH
 repeat (first|refine sr ?_|refine qb fun bx=>?_)
 clear r3
 refine Q_op fun ho=>A1p ho bod33 Y Y Y Y Y fair_x (fun x w hl hx=>?_)
 clear ho
 replace hg:=hg.le hl
 replace r1:=r1.le hl
 replace r2:=r2.le hl
 clear hl
 obtain⟨aF,cF,rfl,rF⟩:=hx
 refine Q_op fun ho=>A1p ho bod42 Y Y Y Y Y bkFirst_x (fun x w hl hx=>?_)
 clear ho
 replace hg:=hg.le hl
 replace r1:=r1.le hl
 replace r2:=r2.le hl
 replace rF:=rF.le hl
 clear hl
 obtain⟨aG,cG,rfl,rG⟩:=hx
 refine Q_op fun ho=>A1p ho bod41 Y Y Y Y Y bkSecond_x (fun x w hl hx=>?_)
 clear ho
 replace hg:=hg.le hl
 replace r1:=r1.le hl
 replace r2:=r2.le hl
 replace rF:=rF.le hl
 replace rG:=rG.le hl
 clear hl
 obtain⟨aH,cH,rfl,rH⟩:=hx
 refine Q_op fun ho=>A0u ho bod47 Y Y Y Y Y (show Ret1 _ _ _ _ (.tuple (List.toArray [intV 1,intV 0])) _ from by have:=both_x (P:=3) (cD:=cF) (cA:=cG) (cB:=cH) (act:=0) rF dM rG rH dM dM;rw [b_zero]at this;exact this) ?_
 clear ho
 clear rF rG rH
 repeat (first|refine sr ?_|refine qb fun bx=>?_)
 refine Q_op fun ho=>A1p ho bod33 Y Y Y Y Y fair_x (fun x w hl hx=>?_)
 clear ho
 replace hg:=hg.le hl
 replace r1:=r1.le hl
 replace r2:=r2.le hl
 clear hl
 obtain⟨aF,cF,rfl,rF⟩:=hx
 refine Q_op fun ho=>A1p ho bod42 Y Y Y Y Y bkFirst_x (fun x w hl hx=>?_)
 clear ho
 replace hg:=hg.le hl
 replace r1:=r1.le hl
 replace r2:=r2.le hl
 replace rF:=rF.le hl
 clear hl
 obtain⟨aG,cG,rfl,rG⟩:=hx
 refine Q_op fun ho=>A1p ho bod41 Y Y Y Y Y bkSecond_x (fun x w hl hx=>?_)
 clear ho
 replace hg:=hg.le hl
 replace r1:=r1.le hl
 replace r2:=r2.le hl
 replace rF:=rF.le hl
 replace rG:=rG.le hl
 clear hl
 obtain⟨aH,cH,rfl,rH⟩:=hx
 refine Q_op fun ho=>A0u ho bod47 Y Y Y Y Y (show Ret1 _ _ _ _ (.tuple (List.toArray [intV 2,intV 0])) _ from by have:=both_x (P:=3) (cD:=cF) (cA:=cG) (cB:=cH) (act:=1) rF dM rG rH dM dM;rw [b_one]at this;exact this) ?_
 clear ho
 clear rF rG rH
 repeat (first|refine sr ?_|refine qb fun bx=>?_)
 refine A6q (fun σ w'=>ErrT w'∧σ=⟨[],[(0,.bool false)],[]⟩) ?_ ?_
 rotate_left
 ·have hcut:=hg
  clear hcut
  repeat (first|refine st ?_|refine qb fun bx=>?_)
  refine Q_op fun ho=>A3w tab ho Y Y Y Y Y Y Y Y Y (fun bL cL hL=>?_)
  clear ho
  refine A8x (β1:=[(bL,cL,3)]) (β2:=[]) cntA (fun hbk=>?_)
  have rL:RowAt _ (some ⟨bL,0,none⟩) (([0]:List Int).map intV):=RowAt.own hbk (by exact cntL) hL
  replace hg:=hg.le (A0g w (A0c [(bL,cL,3)]))
  replace r1:=r1.le (A0g w (A0c [(bL,cL,3)]))
  replace r2:=r2.le (A0g w (A0c [(bL,cL,3)]))
  clear hbk hL
  generalize w.union (A0c [(bL,cL,3)])=w at *
  refine Q_op fun ho=>A0u ho bod24 Y Y Y Y Y (A5v (A9n (xs:=[0]) (ys:=[0]) r1 rL dM dM)) ?_
  clear ho
  clear rL
  repeat (first|refine st ?_|refine qb fun bx=>?_)
  refine Q_op fun ho=>A3w tab ho Y Y Y Y Y Y Y Y Y (fun bL cL hL=>?_)
  clear ho
  refine A8x (β1:=[(bL,cL,3)]) (β2:=[]) cntA (fun hbk=>?_)
  have rL:RowAt _ (some ⟨bL,0,none⟩) (([2]:List Int).map intV):=RowAt.own hbk (by exact cntL) hL
  replace hg:=hg.le (A0g w (A0c [(bL,cL,3)]))
  replace r1:=r1.le (A0g w (A0c [(bL,cL,3)]))
  replace r2:=r2.le (A0g w (A0c [(bL,cL,3)]))
  clear hbk hL
  generalize w.union (A0c [(bL,cL,3)])=w at *
  refine Q_op fun ho=>A0u ho bod24 Y Y Y Y Y (A5v (A9n (xs:=[2]) (ys:=[2]) r2 rL dM dM)) ?_
  clear ho
  clear rL
  repeat (first|refine st ?_|refine qb fun bx=>?_)
  exact A0b ⟨_,_,⟨hg,Y⟩,⟨Y,rg,cntL⟩,Le.refl _⟩
 rintro σ w' ⟨hg,rfl⟩
 exact known_g hg
theorem known_e{w:View}(hg:ErrT w):XC prog ⟨true,true⟩ none f6.ntmps (tlC 21 knB) (TopQ 0) ⟨[],[(0,.bool false)],[]⟩ w:=by
 refine A4i ?_
 refine A7o ?_
 repeat (first|refine sr ?_|refine qb fun bx=>?_)
 refine Q_op fun ho=>A1p ho bod33 Y Y Y Y Y fair_x (fun x w hl hx=>?_)
 clear ho
 replace hg:=hg.le hl
 clear hl
 obtain⟨aF,cF,rfl,rF⟩:=hx
 refine Q_op fun ho=>A1p ho bod41 Y Y Y Y Y bkSecond_x (fun x w hl hx=>?_)
 clear ho
 replace hg:=hg.le hl
 replace rF:=rF.le hl
 clear hl
 obtain⟨aG,cG,rfl,rG⟩:=hx
 refine Q_op fun ho=>A1p ho bod25 Y Y Y Y Y (liarsP_x rF dM rG dM) (fun x w hl hx=>?_)
 clear ho
 replace hg:=hg.le hl
 replace rF:=rF.le hl
 replace rG:=rG.le hl
 clear hl
 rw [l_second]at hx;obtain⟨a1,c1,rfl,r1⟩:=hx
 clear rF rG
 repeat (first|refine sr ?_|refine qb fun bx=>?_)
 refine Q_op fun ho=>A1p ho bod33 Y Y Y Y Y fair_x (fun x w hl hx=>?_)
 clear ho
 replace hg:=hg.le hl
 replace r1:=r1.le hl
 clear hl
 obtain⟨aF,cF,rfl,rF⟩:=hx
 refine Q_op fun ho=>A1p ho bod42 Y Y Y Y Y bkFirst_x (fun x w hl hx=>?_)
 clear ho
 replace hg:=hg.le hl
 replace r1:=r1.le hl
 replace rF:=rF.le hl
 clear hl
 obtain⟨aG,cG,rfl,rG⟩:=hx
 refine Q_op fun ho=>A1p ho bod25 Y Y Y Y Y (liarsP_x rF dM rG dM) (fun x w hl hx=>?_)
 clear ho
 replace hg:=hg.le hl
 replace r1:=r1.le hl
 replace rF:=rF.le hl
 replace rG:=rG.le hl
 clear hl
 rw [l_first]at hx;obtain⟨a2,c2,rfl,_⟩:=hx
 clear rF rG
 repeat (first|refine sr ?_|refine qb fun bx=>?_)
 refine Q_op fun ho=>A1p ho bod33 Y Y Y Y Y fair_x (fun x w hl hx=>?_)
 clear ho
 replace hg:=hg.le hl
 replace r1:=r1.le hl
 clear hl
 obtain⟨aF,cF,rfl,rF⟩:=hx
 refine Q_op fun ho=>A1p ho bod40 Y Y Y Y Y bkBack_x (fun x w hl hx=>?_)
 clear ho
 replace hg:=hg.le hl
 replace r1:=r1.le hl
 replace rF:=rF.le hl
 clear hl
 obtain⟨aG,cG,rfl,rG⟩:=hx
 refine Q_op fun ho=>A1p ho bod11 Y Y Y Y Y (tradeP_x hg rF dM rG dM) (fun x w hl hx=>?_)
 clear ho
 replace hg:=hg.le hl
 replace r1:=r1.le hl
 replace rF:=rF.le hl
 replace rG:=rG.le hl
 clear hl
 rw [t_fair]at hx;obtain⟨a7,c7,a8,c8,ys,rfl,_,_,_⟩:=hx
 clear rF rG
 repeat (first|refine sr ?_|refine qb fun bx=>?_)
 obtain⟨b19,rfl⟩:∃x:Nat,x=bx:=⟨bx,rfl⟩
 rw [putV_tx]
 refine Q_op fun ho=>A1p ho bod33 Y Y Y Y Y fair_x (fun x w hl hx=>?_)
 clear ho
 replace hg:=hg.le hl
 replace r1:=r1.le hl
 clear hl
 obtain⟨aF,cF,rfl,rF⟩:=hx
 refine Q_op fun ho=>A1p ho bod42 Y Y Y Y Y bkFirst_x (fun x w hl hx=>?_)
 clear ho
 replace hg:=hg.le hl
 replace r1:=r1.le hl
 replace rF:=rF.le hl
 clear hl
 obtain⟨aG,cG,rfl,rG⟩:=hx
 refine Q_op fun ho=>A1p ho bod41 Y Y Y Y Y bkSecond_x (fun x w hl hx=>?_)
 clear ho
 replace hg:=hg.le hl
 replace r1:=r1.le hl
 replace rF:=rF.le hl
 replace rG:=rG.le hl
 clear hl
 obtain⟨aH,cH,rfl,rH⟩:=hx
 refine Q_op fun ho=>A0u ho bod43 Y Y Y Y Y (show Ret1 _ _ _ _ (.tuple (List.toArray [intV 6,intV 5,intV 0])) _ from by have:=count_x (P:=3) (cD:=cF) (cA:=cG) (cB:=cH) rF dM rG rH dM dM;rw [c_six]at this;exact this) ?_
 clear ho
 clear rF rG rH
 repeat (first|refine sr ?_|refine qb fun bx=>?_)
 refine Q_op fun ho=>A1p ho bod33 Y Y Y Y Y fair_x (fun x w hl hx=>?_)
 clear ho
 replace hg:=hg.le hl
 replace r1:=r1.le hl
 clear hl
 obtain⟨aF,cF,rfl,rF⟩:=hx
 refine Q_op fun ho=>A1p ho bod44 Y Y Y Y Y bkOver_x (fun x w hl hx=>?_)
 clear ho
 replace hg:=hg.le hl
 replace r1:=r1.le hl
 replace rF:=rF.le hl
 clear hl
 obtain⟨aG,cG,rfl,rG⟩:=hx
 refine Q_op fun ho=>A1p ho bod40 Y Y Y Y Y bkBack_x (fun x w hl hx=>?_)
 clear ho
 replace hg:=hg.le hl
 replace r1:=r1.le hl
 replace rF:=rF.le hl
 replace rG:=rG.le hl
 clear hl
 obtain⟨aH,cH,rfl,rH⟩:=hx
 refine Q_op fun ho=>A0u ho bod43 Y Y Y Y Y (show Ret1 _ _ _ _ (.tuple (List.toArray [intV 1,intV 2,intV 0])) _ from by have:=count_x (P:=3) (cD:=cF) (cA:=cG) (cB:=cH) rF dM rG rH dM dM;rw [c_one]at this;exact this) ?_
 clear ho
 clear rF rG rH
 repeat (first|refine sr ?_|refine qb fun bx=>?_)
 refine Q_op fun ho=>A1p ho bod33 Y Y Y Y Y fair_x (fun x w hl hx=>?_)
 clear ho
 replace hg:=hg.le hl
 replace r1:=r1.le hl
 clear hl
 obtain⟨aF,cF,rfl,rF⟩:=hx
 refine Q_op fun ho=>A1p ho bod44 Y Y Y Y Y bkOver_x (fun x w hl hx=>?_)
 clear ho
 replace hg:=hg.le hl
 replace r1:=r1.le hl
 replace rF:=rF.le hl
 clear hl
 obtain⟨aG,cG,rfl,rG⟩:=hx
 refine Q_op fun ho=>A1p ho bod45 Y Y Y Y Y bkAway_x (fun x w hl hx=>?_)
 clear ho
 replace hg:=hg.le hl
 replace r1:=r1.le hl
 replace rF:=rF.le hl
 replace rG:=rG.le hl
 clear hl
 obtain⟨aH,cH,rfl,rH⟩:=hx
 refine Q_op fun ho=>A0u ho bod43 Y Y Y Y Y (show Ret1 _ _ _ _ (.tuple (List.toArray [intV 0,intV 0,intV 11])) _ from by have:=count_x (P:=3) (cD:=cF) (cA:=cG) (cB:=cH) rF dM rG rH dM dM;rw [c_void]at this;exact this) ?_
 clear ho
 clear rF rG rH
 repeat (first|refine sr ?_|refine qb fun bx=>?_)
 refine A6q (fun σ w'=>ErrT w'∧σ=⟨[],[(0,.bool false)],[]⟩) ?_ ?_
 rotate_left
 ·have hcut:=hg
  clear hcut
  repeat (first|refine st ?_|refine qb fun bx=>?_)
  refine Q_op fun ho=>A3w tab ho Y Y Y Y Y Y Y Y Y (fun bL cL hL=>?_)
  clear ho
  refine A8x (β1:=[(bL,cL,3)]) (β2:=[(b19,trC 3 a7 2 c7 a8 0 c8,36)]) cntA (fun hbk=>?_)
  have rL:RowAt _ (some ⟨bL,0,none⟩) (([0]:List Int).map intV):=RowAt.own hbk (by exact cntL) hL
  replace hg:=hg.le (A0g w (A0c [(bL,cL,3)]))
  replace r1:=r1.le (A0g w (A0c [(bL,cL,3)]))
  clear hbk hL
  generalize w.union (A0c [(bL,cL,3)])=w at *
  refine Q_op fun ho=>A0u ho bod24 Y Y Y Y Y (A5v (A9n (xs:=[0]) (ys:=[0]) r1 rL dM dM)) ?_
  clear ho
  clear rL
  repeat (first|refine st ?_|refine qb fun bx=>?_)
  exact A0b ⟨_,_,⟨hg,Y⟩,⟨Y,rg,cntL⟩,Le.refl _⟩
 rintro σ w' ⟨hg,rfl⟩
 exact known_f hg
theorem known_d{w:View}(hg:ErrT w):XC prog ⟨true,true⟩ none f6.ntmps (tlC 15 knB) (TopQ 0) ⟨[],[(0,.bool false)],[]⟩ w:=by
 refine A4i ?_
 refine A7o ?_
 repeat (first|refine sr ?_|refine qb fun bx=>?_)
 refine Q_op fun ho=>A1p ho bod33 Y Y Y Y Y fair_x (fun x w hl hx=>?_)
 clear ho
 replace hg:=hg.le hl
 clear hl
 obtain⟨aF,cF,rfl,rF⟩:=hx
 refine Q_op fun ho=>A1p ho bod41 Y Y Y Y Y bkSecond_x (fun x w hl hx=>?_)
 clear ho
 replace hg:=hg.le hl
 replace rF:=rF.le hl
 clear hl
 obtain⟨aG,cG,rfl,rG⟩:=hx
 refine Q_op fun ho=>A1p ho bod10 Y Y Y Y Y (hold_x rF dM rG dM) (fun x w hl hx=>?_)
 clear ho
 replace hg:=hg.le hl
 replace rF:=rF.le hl
 replace rG:=rG.le hl
 clear hl
 rw [h_second]at hx;obtain⟨a1,c1,a2,c2,rfl,r1,r2⟩:=hx
 clear rF rG
 repeat (first|refine sr ?_|refine qb fun bx=>?_)
 refine Q_op fun ho=>A1p ho bod33 Y Y Y Y Y fair_x (fun x w hl hx=>?_)
 clear ho
 replace hg:=hg.le hl
 replace r1:=r1.le hl
 replace r2:=r2.le hl
 clear hl
 obtain⟨aF,cF,rfl,rF⟩:=hx
 refine Q_op fun ho=>A1p ho bod40 Y Y Y Y Y bkBack_x (fun x w hl hx=>?_)
 clear ho
 replace hg:=hg.le hl
 replace r1:=r1.le hl
 replace r2:=r2.le hl
 replace rF:=rF.le hl
 clear hl
 obtain⟨aG,cG,rfl,rG⟩:=hx
 refine Q_op fun ho=>A1p ho bod10 Y Y Y Y Y (hold_x rF dM rG dM) (fun x w hl hx=>?_)
 clear ho
 replace hg:=hg.le hl
 replace r1:=r1.le hl
 replace r2:=r2.le hl
 replace rF:=rF.le hl
 replace rG:=rG.le hl
 clear hl
 rw [h_back]at hx;obtain⟨a3,c3,a4,c4,rfl,r3,r4⟩:=hx
 clear rF rG
 repeat (first|refine sr ?_|refine qb fun bx=>?_)
 refine Q_op fun ho=>A1p ho bod33 Y Y Y Y Y fair_x (fun x w hl hx=>?_)
 clear ho
 replace hg:=hg.le hl
 replace r1:=r1.le hl
 replace r2:=r2.le hl
 replace r3:=r3.le hl
 replace r4:=r4.le hl
 clear hl
 obtain⟨aF,cF,rfl,rF⟩:=hx
 refine Q_op fun ho=>A0u ho B0r Y Y Y Y Y (A4j (a:=0) (b:=0) (h:=0)) ?_
 clear ho
 refine Q_op fun ho=>A3w tab ho Y Y Y Y Y Y Y Y Y (fun bL cL hL=>?_)
 clear ho
 refine A8x (β1:=[(bL,cL,40)]) (β2:=[]) cntA (fun hbk=>?_)
 have rL:ActsAt _ (some ⟨bL,0,none⟩) [⟨0,0,0,0⟩]:=RowAt.own hbk (by exact cntL) hL
 replace hg:=hg.le (A0g w (A0c [(bL,cL,40)]))
 replace r1:=r1.le (A0g w (A0c [(bL,cL,40)]))
 replace r2:=r2.le (A0g w (A0c [(bL,cL,40)]))
 replace r3:=r3.le (A0g w (A0c [(bL,cL,40)]))
 replace r4:=r4.le (A0g w (A0c [(bL,cL,40)]))
 replace rF:=rF.le (A0g w (A0c [(bL,cL,40)]))
 clear hbk hL
 generalize w.union (A0c [(bL,cL,40)])=w at *
 refine Q_op fun ho=>A1p ho bod10 Y Y Y Y Y (hold_x rF dM (a:=[⟨0,0,0,0⟩]) (cA:=1) rL dM) (fun x w hl hx=>?_)
 clear ho
 replace hg:=hg.le hl
 replace r1:=r1.le hl
 replace r2:=r2.le hl
 replace r3:=r3.le hl
 replace r4:=r4.le hl
 replace rF:=rF.le hl
 replace rL:=rL.le hl
 clear hl
 rw [h_twin]at hx;obtain⟨a5,c5,a6,c6,rfl,_,_⟩:=hx
 clear rF rL
 repeat (first|refine sr ?_|refine qb fun bx=>?_)
 refine Q_op fun ho=>A1p ho bod33 Y Y Y Y Y fair_x (fun x w hl hx=>?_)
 clear ho
 replace hg:=hg.le hl
 replace r1:=r1.le hl
 replace r2:=r2.le hl
 replace r3:=r3.le hl
 replace r4:=r4.le hl
 clear hl
 obtain⟨aF,cF,rfl,rF⟩:=hx
 refine Q_op fun ho=>A0u ho bod36 Y Y Y Y Y (asks_x (h:=2)) ?_
 clear ho
 refine Q_op fun ho=>A3w tab ho Y Y Y Y Y Y Y Y Y (fun bL cL hL=>?_)
 clear ho
 refine A8x (β1:=[(bL,cL,40)]) (β2:=[]) cntA (fun hbk=>?_)
 have rL:ActsAt _ (some ⟨bL,0,none⟩) [⟨1,0,0,2⟩]:=RowAt.own hbk (by exact cntL) hL
 replace hg:=hg.le (A0g w (A0c [(bL,cL,40)]))
 replace r1:=r1.le (A0g w (A0c [(bL,cL,40)]))
 replace r2:=r2.le (A0g w (A0c [(bL,cL,40)]))
 replace r3:=r3.le (A0g w (A0c [(bL,cL,40)]))
 replace r4:=r4.le (A0g w (A0c [(bL,cL,40)]))
 replace rF:=rF.le (A0g w (A0c [(bL,cL,40)]))
 clear hbk hL
 generalize w.union (A0c [(bL,cL,40)])=w at *
 refine Q_op fun ho=>A1p ho bod10 Y Y Y Y Y (hold_x rF dM (a:=[⟨1,0,0,2⟩]) (cA:=1) rL dM) (fun x w hl hx=>?_)
 clear ho
 replace hg:=hg.le hl
 replace r1:=r1.le hl
 replace r2:=r2.le hl
 replace r3:=r3.le hl
 replace r4:=r4.le hl
 replace rF:=rF.le hl
 replace rL:=rL.le hl
 clear hl
 rw [h_horse]at hx;obtain⟨a5,c5,a6,c6,rfl,_,_⟩:=hx
 clear rF rL
 repeat (first|refine sr ?_|refine qb fun bx=>?_)
 refine Q_op fun ho=>A1p ho bod33 Y Y Y Y Y fair_x (fun x w hl hx=>?_)
 clear ho
 replace hg:=hg.le hl
 replace r1:=r1.le hl
 replace r2:=r2.le hl
 replace r3:=r3.le hl
 replace r4:=r4.le hl
 clear hl
 obtain⟨aF,cF,rfl,rF⟩:=hx
 refine Q_op fun ho=>A0u ho B0r Y Y Y Y Y (A4j (a:=3) (b:=0) (h:=0)) ?_
 clear ho
 refine Q_op fun ho=>A3w tab ho Y Y Y Y Y Y Y Y Y (fun bL cL hL=>?_)
 clear ho
 refine A8x (β1:=[(bL,cL,40)]) (β2:=[]) cntA (fun hbk=>?_)
 have rL:ActsAt _ (some ⟨bL,0,none⟩) [⟨0,3,0,0⟩]:=RowAt.own hbk (by exact cntL) hL
 replace hg:=hg.le (A0g w (A0c [(bL,cL,40)]))
 replace r1:=r1.le (A0g w (A0c [(bL,cL,40)]))
 replace r2:=r2.le (A0g w (A0c [(bL,cL,40)]))
 replace r3:=r3.le (A0g w (A0c [(bL,cL,40)]))
 replace r4:=r4.le (A0g w (A0c [(bL,cL,40)]))
 replace rF:=rF.le (A0g w (A0c [(bL,cL,40)]))
 clear hbk hL
 generalize w.union (A0c [(bL,cL,40)])=w at *
 refine Q_op fun ho=>A1p ho bod10 Y Y Y Y Y (hold_x rF dM (a:=[⟨0,3,0,0⟩]) (cA:=1) rL dM) (fun x w hl hx=>?_)
 clear ho
 replace hg:=hg.le hl
 replace r1:=r1.le hl
 replace r2:=r2.le hl
 replace r3:=r3.le hl
 replace r4:=r4.le hl
 replace rF:=rF.le hl
 replace rL:=rL.le hl
 clear hl
 rw [h_three]at hx;obtain⟨a5,c5,a6,c6,rfl,_,_⟩:=hx
 clear rF rL
 repeat (first|refine sr ?_|refine qb fun bx=>?_)
 refine A6q (fun σ w'=>ErrT w'∧σ=⟨[],[(0,.bool false)],[]⟩) ?_ ?_
 rotate_left
 ·have hcut:=hg
  clear hcut
  repeat (first|refine st ?_|refine qb fun bx=>?_)
  refine Q_op fun ho=>A3w tab ho Y Y Y Y Y Y Y Y Y (fun bL cL hL=>?_)
  clear ho
  refine A8x (β1:=[(bL,cL,9)]) (β2:=[]) cntA (fun hbk=>?_)
  have rL:RowAt _ (some ⟨bL,0,none⟩) (([⟨#[111,107]⟩,⟨#[111,107]⟩,⟨#[110,111,116]⟩]:List ByteArray).map Value.string):=RowAt.own hbk (by exact cntL) hL
  replace hg:=hg.le (A0g w (A0c [(bL,cL,9)]))
  replace r1:=r1.le (A0g w (A0c [(bL,cL,9)]))
  replace r2:=r2.le (A0g w (A0c [(bL,cL,9)]))
  replace r3:=r3.le (A0g w (A0c [(bL,cL,9)]))
  replace r4:=r4.le (A0g w (A0c [(bL,cL,9)]))
  clear hbk hL
  generalize w.union (A0c [(bL,cL,9)])=w at *
  refine Q_op fun ho=>A0u ho bod23 Y Y Y Y Y (A5v (sameWords_x (xs:=[⟨#[111,107]⟩,⟨#[111,107]⟩,⟨#[110,111,116]⟩]) (ys:=[⟨#[111,107]⟩,⟨#[111,107]⟩,⟨#[110,111,116]⟩]) r1 rL dM dM)) ?_
  clear ho
  clear rL
  repeat (first|refine st ?_|refine qb fun bx=>?_)
  refine Q_op fun ho=>A3w tab ho Y Y Y Y Y Y Y Y Y (fun bL cL hL=>?_)
  clear ho
  refine A8x (β1:=[(bL,cL,3)]) (β2:=[]) cntA (fun hbk=>?_)
  have rL:RowAt _ (some ⟨bL,0,none⟩) (([0,1]:List Int).map intV):=RowAt.own hbk (by exact cntL) hL
  replace hg:=hg.le (A0g w (A0c [(bL,cL,3)]))
  replace r1:=r1.le (A0g w (A0c [(bL,cL,3)]))
  replace r2:=r2.le (A0g w (A0c [(bL,cL,3)]))
  replace r3:=r3.le (A0g w (A0c [(bL,cL,3)]))
  replace r4:=r4.le (A0g w (A0c [(bL,cL,3)]))
  clear hbk hL
  generalize w.union (A0c [(bL,cL,3)])=w at *
  refine Q_op fun ho=>A0u ho bod24 Y Y Y Y Y (A5v (A9n (xs:=[0,1]) (ys:=[0,1]) r2 rL dM dM)) ?_
  clear ho
  clear rL
  repeat (first|refine st ?_|refine qb fun bx=>?_)
  refine Q_op fun ho=>A3w tab ho Y Y Y Y Y Y Y Y Y (fun bL cL hL=>?_)
  clear ho
  refine A8x (β1:=[(bL,cL,9)]) (β2:=[]) cntA (fun hbk=>?_)
  have rL:RowAt _ (some ⟨bL,0,none⟩) (([⟨#[110,111]⟩]:List ByteArray).map Value.string):=RowAt.own hbk (by exact cntL) hL
  replace hg:=hg.le (A0g w (A0c [(bL,cL,9)]))
  replace r1:=r1.le (A0g w (A0c [(bL,cL,9)]))
  replace r2:=r2.le (A0g w (A0c [(bL,cL,9)]))
  replace r3:=r3.le (A0g w (A0c [(bL,cL,9)]))
  replace r4:=r4.le (A0g w (A0c [(bL,cL,9)]))
  clear hbk hL
  generalize w.union (A0c [(bL,cL,9)])=w at *
  refine Q_op fun ho=>A0u ho bod23 Y Y Y Y Y (A5v (sameWords_x (xs:=[⟨#[110,111]⟩]) (ys:=[⟨#[110,111]⟩]) r3 rL dM dM)) ?_
  clear ho
  clear rL
  repeat (first|refine st ?_|refine qb fun bx=>?_)
  refine Q_op fun ho=>A3w tab ho Y Y Y Y Y Y Y Y Y (fun bL cL hL=>?_)
  clear ho
  refine A8x (β1:=[(bL,cL,3)]) (β2:=[]) cntA (fun hbk=>?_)
  have rL:RowAt _ (some ⟨bL,0,none⟩) (([0,1]:List Int).map intV):=RowAt.own hbk (by exact cntL) hL
  replace hg:=hg.le (A0g w (A0c [(bL,cL,3)]))
  replace r1:=r1.le (A0g w (A0c [(bL,cL,3)]))
  replace r2:=r2.le (A0g w (A0c [(bL,cL,3)]))
  replace r3:=r3.le (A0g w (A0c [(bL,cL,3)]))
  replace r4:=r4.le (A0g w (A0c [(bL,cL,3)]))
  clear hbk hL
  generalize w.union (A0c [(bL,cL,3)])=w at *
  refine Q_op fun ho=>A0u ho bod24 Y Y Y Y Y (A5v (A9n (xs:=[0,1]) (ys:=[0,1]) r4 rL dM dM)) ?_
  clear ho
  clear rL
  repeat (first|refine st ?_|refine qb fun bx=>?_)
  exact A0b ⟨_,_,⟨hg,Y⟩,⟨Y,rg,cntL⟩,Le.refl _⟩
 rintro σ w' ⟨hg,rfl⟩
 exact known_e hg
theorem known_c{w:View}(hg:ErrT w):XC prog ⟨true,true⟩ none f6.ntmps (tlC 8 knB) (TopQ 0) ⟨[],[(0,.bool false)],[]⟩ w:=by
 refine A4i ?_
 refine A7o ?_
 repeat (first|refine sr ?_|refine qb fun bx=>?_)
 refine Q_op fun ho=>A0u ho bod37 Y Y Y Y Y (show Ret1 _ _ _ _ _ _ from w_one ▸ write_x (x:=⟨1,1,0,7⟩)) ?_
 clear ho
 repeat (first|refine sr ?_|refine qb fun bx=>?_)
 refine Q_op fun ho=>A0u ho B0r Y Y Y Y Y (A4j (a:=0) (b:=10) (h:=0)) ?_
 clear ho
 refine Q_op fun ho=>A0u ho bod37 Y Y Y Y Y (show Ret1 _ _ _ _ _ _ from w_ten ▸ write_x (x:=⟨0,0,10,0⟩)) ?_
 clear ho
 repeat (first|refine sr ?_|refine qb fun bx=>?_)
 refine Q_op fun ho=>A0u ho bod37 Y Y Y Y Y (show Ret1 _ _ _ _ _ _ from w_three ▸ write_x (x:=⟨3,0,0,0⟩)) ?_
 clear ho
 repeat (first|refine sr ?_|refine qb fun bx=>?_)
 refine Q_op fun ho=>A1p ho bod38 Y Y Y Y Y (readE_x (s:=⟨#[63,48]⟩) (l:=[]) (e:=2) dM r_ask) (fun x w hl hx=>?_)
 clear ho
 replace hg:=hg.le hl
 clear hl
 obtain⟨a1,c1,rfl⟩:=hx
 repeat (first|refine sr ?_|refine qb fun bx=>?_)
 refine Q_op fun ho=>A1p ho bod38 Y Y Y Y Y (readE_x (s:=⟨#[10,10]⟩) (l:=[]) (e:=2) dM r_nl) (fun x w hl hx=>?_)
 clear ho
 replace hg:=hg.le hl
 clear hl
 obtain⟨a1,c1,rfl⟩:=hx
 repeat (first|refine sr ?_|refine qb fun bx=>?_)
 refine Q_op fun ho=>A1p ho bod40 Y Y Y Y Y bkBack_x (fun x w hl hx=>?_)
 clear ho
 replace hg:=hg.le hl
 clear hl
 obtain⟨aG,cG,rfl,rG⟩:=hx
 refine Q_op fun ho=>A0u ho bod39 Y Y Y Y Y (show Ret1 _ _ _ _ _ _ from t_back ▸ text_x (c:=cG) rG dM) ?_
 clear ho
 clear rG
 repeat (first|refine sr ?_|refine qb fun bx=>?_)
 refine A6q (fun σ w'=>ErrT w'∧σ=⟨[],[(0,.bool false)],[]⟩) ?_ ?_
 rotate_left
 ·have hcut:=hg
  clear hcut
  repeat (first|refine st ?_|refine qb fun bx=>?_)
  rw [show(!(({data:=#[49,62,48,58,48,10] }:ByteArray).toList==({data:=#[49,62,48,58,48,10] }:ByteArray).toList))=false from by rw [beq_self_eq_true];rfl]
  repeat (first|refine st ?_|refine qb fun bx=>?_)
  exact A0b ⟨_,_,⟨hg,Y⟩,⟨Y,rg,cntL⟩,Le.refl _⟩
 rintro σ w' ⟨hg,rfl⟩
 exact known_d hg
theorem known_b{w:View}(hg:ErrT w):XC prog ⟨true,true⟩ none f6.ntmps (tlC 2 knB) (TopQ 0) ⟨[],[(0,.bool false)],[]⟩ w:=by
 refine A4i ?_
 refine A7o ?_
 repeat (first|refine sr ?_|refine qb fun bx=>?_)
 refine Q_op fun ho=>A0u ho bod34 Y Y Y Y Y (show Ret1 _ _ _ _ _ _ from p_sale ▸ parse_x (s:=⟨#[48,62,49,58,48]⟩)) ?_
 clear ho
 repeat (first|refine sr ?_|refine qb fun bx=>?_)
 refine Q_op fun ho=>A0u ho bod34 Y Y Y Y Y (show Ret1 _ _ _ _ _ _ from p_ask ▸ parse_x (s:=⟨#[63,48]⟩)) ?_
 clear ho
 repeat (first|refine sr ?_|refine qb fun bx=>?_)
 refine Q_op fun ho=>A0u ho bod34 Y Y Y Y Y (show Ret1 _ _ _ _ _ _ from p_tail ▸ parse_x (s:=⟨#[48,62,49,58,48,32]⟩)) ?_
 clear ho
 repeat (first|refine sr ?_|refine qb fun bx=>?_)
 refine Q_op fun ho=>A0u ho bod34 Y Y Y Y Y (show Ret1 _ _ _ _ _ _ from p_ten ▸ parse_x (s:=⟨#[48,62,49,48,58,48]⟩)) ?_
 clear ho
 repeat (first|refine sr ?_|refine qb fun bx=>?_)
 refine Q_op fun ho=>A0u ho bod34 Y Y Y Y Y (show Ret1 _ _ _ _ _ _ from p_void ▸ parse_x (s:=⟨#[]⟩)) ?_
 clear ho
 repeat (first|refine sr ?_|refine qb fun bx=>?_)
 refine A6q (fun σ w'=>ErrT w'∧σ=⟨[],[(0,.bool false)],[]⟩) ?_ ?_
 rotate_left
 ·have hcut:=hg
  clear hcut
  repeat (first|refine st ?_|refine qb fun bx=>?_)
  refine XC_lex A1e Y kR ?_
  repeat (first|refine st ?_|refine qb fun bx=>?_)
  refine A2w B0r Y Y Y Y Y (A4j (a:=0) (b:=1) (h:=0)) ?_
  repeat (first|refine st ?_|refine qb fun bx=>?_)
  refine L_neqlA (a:=⟨0,0,1,0⟩) (b:=⟨0,0,1,0⟩) Y Y Y Y ?_
  rw [show decide ((⟨0,0,1,0⟩:MA)=⟨0,0,1,0⟩)=true from by decide]
  repeat (first|refine st ?_|refine qb fun bx=>?_)
  refine A2w bod36 Y Y Y Y Y (asks_x (h:=0)) ?_
  repeat (first|refine st ?_|refine qb fun bx=>?_)
  refine L_neqlA (a:=⟨1,0,0,0⟩) (b:=⟨1,0,0,0⟩) Y Y Y Y ?_
  rw [show decide ((⟨1,0,0,0⟩:MA)=⟨1,0,0,0⟩)=true from by decide]
  repeat (first|refine st ?_|refine qb fun bx=>?_)
  exact A0b ⟨_,_,⟨hg,Y⟩,⟨Y,rg,cntL⟩,Le.refl _⟩
 rintro σ w' ⟨hg,rfl⟩
 exact known_c hg
theorem known_run{w:View}(hg:ErrT w):Run prog ⟨true,true⟩ (AtTop 6 0) w (G (Frame.enter prog 6 (List.toArray []) .normal) []):=by
 refine top_run func6 Y nB ?_
 repeat (first|refine sr ?_|refine qb fun bx=>?_)
 refine A6q (fun σ w'=>ErrT w'∧σ=⟨[],[(0,.bool false)],[]⟩) ?_ ?_
 rotate_left
 ·have hcut:=hg
  clear hcut
  repeat (first|refine st ?_|refine qb fun bx=>?_)
  refine Q_op fun ho=>A0u ho bod19 Y Y Y Y Y held_x ?_
  clear ho
  repeat (first|refine st ?_|refine qb fun bx=>?_)
  refine Q_op fun ho=>A1p ho bod33 Y Y Y Y Y fair_x (fun x w hl hx=>?_)
  clear ho
  replace hg:=hg.le hl
  clear hl
  obtain⟨aF,cF,rfl,rF⟩:=hx
  refine Q_op fun ho=>A0u ho bod32 Y Y Y Y Y (show Ret1 _ _ _ _ (intV 0) _ from by have:=morn_x (mn:=⟨true,true⟩) (P:=3) (d:=[0,1]) (a:=aF) (cap:=cF) rF dM;rw [m_fair]at this;exact this) ?_
  clear ho
  clear rF
  repeat (first|refine st ?_|refine qb fun bx=>?_)
  refine Q_op fun ho=>A3w tab ho Y Y Y Y Y Y Y Y Y (fun bL cL hL=>?_)
  clear ho
  refine A8x (β1:=[(bL,cL,3)]) (β2:=[]) cntA (fun hbk=>?_)
  have rL:RowAt _ (some ⟨bL,0,none⟩) (([0]:List Int).map intV):=RowAt.own hbk (by exact cntL) hL
  replace hg:=hg.le (A0g w (A0c [(bL,cL,3)]))
  clear hbk hL
  generalize w.union (A0c [(bL,cL,3)])=w at *
  repeat (first|refine st ?_|refine qb fun bx=>?_)
  refine Q_op fun ho=>A0u ho bod32 Y Y Y Y Y (show Ret1 _ _ _ _ (intV 1) _ from by have:=morn_x (mn:=⟨true,true⟩) (P:=0) (d:=[0]) (a:=_) (cap:=1) rL dM;rw [m_none]at this;exact this) ?_
  clear ho
  clear rL
  repeat (first|refine st ?_|refine qb fun bx=>?_)
  refine Q_op fun ho=>A0u ho bod32 Y Y Y Y Y (show Ret1 _ _ _ _ (intV 7) _ from by have:=morn_x (mn:=⟨true,true⟩) (P:=3) (d:=[]) (a:=none) (cap:=0) (v:=w) (.inl Y) dM;rw [m_under]at this;exact this) ?_
  clear ho
  repeat (first|refine st ?_|refine qb fun bx=>?_)
  refine Q_op fun ho=>A3w tab ho Y Y Y Y Y Y Y Y Y (fun bL cL hL=>?_)
  clear ho
  refine A8x (β1:=[(bL,cL,3)]) (β2:=[]) cntA (fun hbk=>?_)
  have rL:RowAt _ (some ⟨bL,0,none⟩) (([0,3]:List Int).map intV):=RowAt.own hbk (by exact cntL) hL
  replace hg:=hg.le (A0g w (A0c [(bL,cL,3)]))
  clear hbk hL
  generalize w.union (A0c [(bL,cL,3)])=w at *
  repeat (first|refine st ?_|refine qb fun bx=>?_)
  refine Q_op fun ho=>A0u ho bod32 Y Y Y Y Y (show Ret1 _ _ _ _ (intV 3) _ from by have:=morn_x (mn:=⟨true,true⟩) (P:=3) (d:=[0,3]) (a:=_) (cap:=2) rL dM;rw [m_who]at this;exact this) ?_
  clear ho
  clear rL
  repeat (first|refine st ?_|refine qb fun bx=>?_)
  exact A0b ⟨_,_,⟨hg,Y⟩,⟨Y,rg,cntL⟩,Le.refl _⟩
 rintro σ w' ⟨hg,rfl⟩
 exact known_b hg
end Go.Proofs.YtclejblcnfaeaaaGreatDoor
end
section
namespace Go.Proofs.YtclejblcnfaeaaaGreatDoor
open Go Go.Pal Go.Pal.To Go.Conc Go.ConcM Go.RowKit Go.ChangeShapes Go.WideShapes Go.ChangeAt Go.Deep
set_option maxHeartbeats 4000000
set_option maxRecDepth 100000
structure Opened(W:World)(v:View):Prop where
 ag:v.Agree W
 ro:∀b,¬v.Owns b
theorem opened0(W:World):Opened W (fun _=>none):=⟨(fun b p o h=>nomatch (show none=some (p,o)from h)),(fun b h=>by obtain⟨o,h⟩:=h;cases h)⟩
theorem row_view{W:World}{a:Addr}{cs:List Value}(hc:∀(i:Nat) (x:Value),cs[i]?=some x→W.cell? (a.add i)=some x):∃v,Opened W v∧RowAt v (some a) cs:=by
 cases cs with
 | nil=>exact⟨_,opened0 W,.inl rfl⟩
 | cons y l=>
  obtain⟨b,off,spot⟩:=a
  have h00:=hc 0 y Y
  have hspot:spot=none:=by simpa [Addr.add]using World.cell?_spot h00
  subst hspot
  have hc':∀(i:Nat) (x:Value),(y::l)[i]?=some x→W.cell? ⟨b,off+i,none⟩=some x:=fun i x hi=>by
   have:=hc i x hi
   rwa [add_plain]at this
  obtain⟨c,e,f,hO⟩:∃c e f,W.heap[b]?=some (.cells c e f):=by
   have:=hc' 0 y Y
   unfold World.cell? at this
   split at this
   ·rename_i c e f h;exact⟨c,e,f,h⟩
   ·cases this
  have hcc:∀(i:Nat) (x:Value),(y::l)[i]?=some x→c[off+i]?=some x:=fun i x hi=>by
   have:=hc' i x hi
   unfold World.cell? at this
   rw [hO]at this
   simpa using this
  refine⟨fun k=>if k=b then some (false,.cells c e f)else none,⟨fun k p o h=>?_,fun k h=>?_⟩,.inr ⟨b,off,false,c,e,f,Y,if_pos Y,?_,hcc⟩⟩
  ·replace h:(if k=b then some (false,Obj.cells c e f)else none)=some (p,o):=h
   by_cases hk:k=b
   ·subst hk
    rw [if_pos rfl]at h
    cases h
    exact hO
   ·rw [if_neg hk]at h;cases h
  ·obtain⟨o,h⟩:=h
   replace h:(if k=b then some (false,Obj.cells c e f)else none)=some (true,o):=h
   by_cases hk:k=b
   ·rw [if_pos hk]at h;cases h
   ·rw [if_neg hk]at h;cases h
  ·have h1:=hcc l.length ((y::l)[l.length]' sM) (List.getElem?_eq_getElem _)
   have h2:=(Array.getElem?_eq_some_iff.1 h1).1
   simp only [List.length_cons]
   omega
end Go.Proofs.YtclejblcnfaeaaaGreatDoor
end
section
namespace Go.Pal
open Go Go.Conc
section
variable{H:Type}{enc:TypeId×Value→H}
theorem leaving_and{a:Assume}{C:Checked}{os:Os}{f:FuncId}{fn:Func}{s:ChangeSpec}{conds:List PathCond}{apart fresh handsOn again:Bool}{X:World→Array Value→Prop}
  (hX:∀(w w':World) (args:Array Value),w.heap=w'.heap→X w args→X w' args)
  (own:ownKnob C.prog.godebug=none)(started:os.Started)(hfn:C.prog.funcs[f]?=some fn)
  (witness:∃(w:World) (tape:Tape) (i:Input),w.os=os∧(w.forCall tape i).Shaped C.prog∧i.vars=[]∧Input.okWide C.prog (w.forCall tape i) .any w.heap.size f i∧
   ((s.pre enc C.prog fn conds apart (w.forCall tape i).memory i.args∧X (w.forCall tape i).memory i.args)∧sizedMet enc C.prog fn (OpenSpec.ofChange s) apart (w.forCall tape i).memory i.args)∧a.holds C.prog (lone (Frame.enter C.prog f i.args .normal) [] (w.forCall tape i)))
  (runs:∀(W:World) (base:Nat) (args:Array Value) (ds gs:List (DataW H)) (before:List MemPlace),
   (∀(j:Nat) t v,fn.params[j]?=some t→args[j]?=some v→Value.okWide C.prog W .any base t v)→
   DataW.Whole enc C.prog fn.params.toList s.vars apart W args.toList ds gs before→
   X W args→
   ∃ M last o w' t',runNT C.prog (M+1) (solo (G (Frame.enter C.prog f args .normal) []) W) #[]=(.ended o w',t')∧runN C.prog M (solo (G (Frame.enter C.prog f args .normal) []) W) = .next last∧
    step C.prog last = .ended o w'∧Conc.Good C.prog (fun v W'=>s.post enc C.prog fn apart fresh handsOn again W args v W') last o w' t') :
  ReturnsInLeavingWide a C os f .any (fun w args=>(s.pre enc C.prog fn conds apart w args∧X w args)∧sizedMet enc C.prog fn (OpenSpec.ofChange s) apart w args) (s.post enc C.prog fn apart fresh handsOn again):=by
 refine returnsInLeavingWide_of_good own started witness ?_
 intro w tape i _ _ _ hok hpre hholds
 obtain⟨_,_,_,fn',hfn',_,_,_,_,hval⟩:=hok
 have e:fn'=fn:=Option.some.inj (hfn'.symm.trans hfn)
 subst e
 obtain⟨⟨⟨ds,gs,before,hw,hc⟩,hx⟩,hz⟩:=hpre
 have hw':=DataW.Whole.of_heap (w':=w.forCall tape i) (by rfl) hw
 obtain⟨M,last,o,w',t',h1,h2,h3,h4⟩:=runs (w.forCall tape i) w.heap.size i.args ds gs before hval hw' (hX _ _ _ (by rfl) hx)
 exact⟨M,last,o,w',t',h1,h2,h3,h4.mono fun v hp=>ChangeSpec.post_blind hp⟩
end
end Go.Pal
end
section
namespace Go.Proofs.YtclejblcnfaeaaaGreatDoor
open Go Go.ChangeShapes
theorem B3f{a b:Bool}(ha:a=true)(hb:b=true):(a&&b)=true:=by rw [ha,hb];rfl
theorem j6_0:(Rows.tollKnownRow.wf (OpenSpec.ofChange Rows.tollKnownSpec))=true:=by kernel_rfl
theorem j6_1:(laidOutB Tryz.prog)=true:=by kernel_rfl
theorem j6_2:(mapsRowed Tryz.prog)=true:=by kernel_rfl
theorem j6_3:(Tryz.f6.params.all (Tryz.prog.readableRec ·))=true:=by kernel_rfl
theorem j6_4:(namedTie Tryz.prog Rows.tollKnownRow.named Rows.tollKnownSpec.vars)=true:=by kernel_rfl
theorem j6_5:((Rows.tollKnownRow.stops == []))=true:=by kernel_rfl
theorem j6_6:((Tryz.prog.stops == []))=true:=by kernel_rfl
theorem j6_7:((Rows.tollKnownRow.knobs == []))=true:=by kernel_rfl
theorem j6_8:((Tryz.prog.stopKnobs == []))=true:=by kernel_rfl
theorem j6_9:((Rows.tollKnownRow.inPlace==Tryz.prog.inPlace 6))=true:=by kernel_rfl
theorem j6_10:((Rows.tollKnownRow.unfollowed==Tryz.prog.unfollowed 6))=true:=by kernel_rfl
theorem j6_11:((Rows.tollKnownRow.recurses==Tryz.prog.recurses 6))=true:=by kernel_rfl
theorem j6_12:((Rows.tollKnownRow.named==Tryz.prog.varsNamed 6))=true:=by kernel_rfl
theorem j6_13:((Rows.tollKnownRow.maps==(Tryz.f6.params.toList++Rows.tollKnownSpec.plain.varTypes Tryz.prog).any (Tryz.prog.mapsRec ·)))=true:=by kernel_rfl
theorem j6_14:((Rows.tollKnownRow.ifaces==(Tryz.f6.params.toList++Rows.tollKnownSpec.plain.varTypes Tryz.prog).any (Tryz.prog.ifacesRec ·)))=true:=by kernel_rfl
theorem j6_15:((Rows.tollKnownRow.mapsOut==Tryz.prog.mapsAmong Tryz.f6.resultTypes.toList))=true:=by kernel_rfl
theorem j6_16:((Rows.tollKnownRow.loops==(Tryz.f6.params.toList++Rows.tollKnownSpec.plain.varTypes Tryz.prog).any (Tryz.prog.loopsFrom ·)))=true:=by kernel_rfl
theorem j6_17:((Rows.tollKnownRow.wideKeys==(Tryz.f6.params.toList++Rows.tollKnownSpec.plain.varTypes Tryz.prog++Tryz.f6.resultTypes.toList).any (Tryz.prog.wideKeysFrom ·)))=true:=by kernel_rfl
theorem j6_18:(Rows.tollKnownSpec.vars.all (Tryz.prog.varReadable ·))=true:=by kernel_rfl
theorem j6_19:(Tryz.f6.resultTypes.all (fun t=>Tryz.prog.readableRec t&&decide (t<Tryz.prog.types.size)))=true:=by kernel_rfl
theorem j6_20:((Rows.tollKnownRow.ifacesOut==Tryz.f6.resultTypes.toList.any (Tryz.prog.ifacesRec ·)))=true:=by kernel_rfl
theorem j6_21:((Rows.tollKnownRow.loopsOut==Tryz.f6.resultTypes.toList.any (Tryz.prog.loopsFrom ·)))=true:=by kernel_rfl
theorem j6_22:((Rows.tollKnownRow.plainKeys==Tryz.prog.plainKeys))=true:=by kernel_rfl
theorem j6_23:(Rows.tollKnownRow.shortTexts.isNone)=true:=by kernel_rfl
theorem j6_24:(Tryz.prog.stopsHeard)=true:=by kernel_rfl
theorem j6_25:(Tryz.prog.mayEnter)=true:=by kernel_rfl
theorem j6_26:((Rows.tollKnownRow.lifted==Tryz.prog.liftsFinal))=true:=by kernel_rfl
theorem j6_27:((Tryz.prog.make==some Rows.tollKnownRow.make))=true:=by kernel_rfl
theorem j6_28:((Rows.tollKnownRow.kinds==(if Rows.tollKnownRow.domain.isEmpty then []else Tryz.f6.params.toList.map fun t=>match Tryz.prog.underlying t with|some (.int k)=>some k|_=>none)))=true:=by kernel_rfl
theorem j6_29:((Rows.tollKnownRow.pinned==Rows.tollKnownRow.pinnedBy))=true:=by kernel_rfl
theorem j6_30:((Rows.tollKnownRow.veiled==(Tryz.f6.params.toList++Rows.tollKnownSpec.plain.varTypes Tryz.prog++Tryz.f6.resultTypes.toList).any (Tryz.prog.veiledRec ·)))=true:=by kernel_rfl
theorem j6_31:(Rows.tollKnownRow.veiledFits Tryz.prog Tryz.f6.params.toList (Tryz.f6.params.toList++Rows.tollKnownSpec.plain.varTypes Tryz.prog++Tryz.f6.resultTypes.toList))=true:=by kernel_rfl
set_option maxRecDepth 100000 in
theorem j6:joinedFacts Tryz.prog 6 Tryz.f6 Rows.tollKnownSpec Rows.tollKnownRow=true:=B3f (B3f (B3f (B3f (B3f (B3f (B3f (B3f (B3f (B3f (B3f (B3f (B3f (B3f (B3f (B3f (B3f (B3f (B3f (B3f (B3f (B3f (B3f (B3f (B3f (B3f (B3f (B3f (B3f (B3f (B3f (j6_0) j6_1) j6_2) j6_3) j6_4) j6_5) j6_6) j6_7) j6_8) j6_9) j6_10) j6_11) j6_12) j6_13) j6_14) j6_15) j6_16) j6_17) j6_18) j6_19) j6_20) j6_21) j6_22) j6_23) j6_24) j6_25) j6_26) j6_27) j6_28) j6_29) j6_30) j6_31
end Go.Proofs.YtclejblcnfaeaaaGreatDoor
end
section
namespace Go.Proofs.YtclejblcnfaeaaaGreatDoor
open Go Go.Pal Go.Pal.To Go.Conc Go.ConcM Go.RowKit Go.ChangeShapes Go.WideShapes Go.ChangeAt
open View
theorem own_knob:ownKnob Tryz.prog.godebug=none:=by kernel_rfl
theorem et_g:Tryz.prog.globalNamed "errors.errorType" = some 0:=by kernel_rfl
theorem rt_t:(Tryz.prog.cutTypes.find? (·.1 == "internal/reflectlite.rtype")).map (·.2)=some 253:=by kernel_rfl
theorem one_row:((List.range 382).filter fun t=>Tryz.prog.rowNamed t [101,114,114,111,114])=[101]:=by kernel_rfl
theorem ty_size:Tryz.prog.types.size=382:=by kernel_rfl
theorem handle_of_laid{W:World}(h:laidMetH Tryz.prog Rows.tollKnownRow.laid W):W.cell? ⟨0,0,none⟩=some (rtV 101):=by
 have h':laidMet Tryz.prog [] W∧handlesMet Tryz.prog Rows.tollKnownRow.laid W:=h
 obtain⟨name,u,ty,e1,e2,e3,e4,e5⟩:=h'.2 _ (List.mem_singleton.2 rfl)
 have en:name=[101,114,114,111,114]:=(Option.some.inj e1).symm
 subst en
 obtain rfl:=Option.some.inj (rt_t.symm.trans e2)
 have hm:ty∈(List.range 382).filter fun t=>Tryz.prog.rowNamed t [101,114,114,111,114]:=List.mem_filter.2 ⟨List.mem_range.2 (by rw [←ty_size];exact e3),e4⟩
 rw [one_row]at hm
 obtain rfl:=List.mem_singleton.1 hm
 have hh:typeHandle Tryz.prog 101=hT 101:=by kernel_rfl
 rw [hh]at e5
 simpa using World.var?_cell et_g e5 0
noncomputable def laidWorld (os:Os) (args:Array Value):World:=
 let w0:=World.holding Tryz.prog os ⟨#[],args,[]⟩
 {w0 with heap:=w0.heap.modify 0 fun
   | .cells _ t frozen=>.cells #[rtV 101] t frozen
   | o=>o }
abbrev wArgs:Array Value:=#[]
theorem laidWorld_met(os:Os):laidMetH Tryz.prog Rows.tollKnownRow.laid ((laidWorld os #[]).forCall (fun _ _=>0) ⟨#[],wArgs,[]⟩).memory:=
 laidMetH_of_parts (laidMet_nil _ _) kR
set_option maxRecDepth 100000 in
set_option maxHeartbeats 4000000 in
theorem known_lifted(os:Os)(started:os.Started)(H:Type)(enc:TypeId×Value→H) :
  ReturnsInLeavingWide {} Tryz.checked os 6 .any (fun w args=>(Rows.tollKnownSpec.pre enc Tryz.prog Tryz.f6 [] false w args∧laidMetH Tryz.prog Rows.tollKnownRow.laid w)∧sizedMet enc Tryz.prog Tryz.f6 (OpenSpec.ofChange Rows.tollKnownSpec) false w args) (Rows.tollKnownSpec.post enc Tryz.prog Tryz.f6 false true false false):=by
 refine leaving_and (C:=Tryz.checked) (X:=fun w _=>laidMetH Tryz.prog Rows.tollKnownRow.laid w) (fun _ _ _ hh h=>h.of_heap hh) own_knob started Tryz.func6
  (ChangeSpec.witness_at (enc:=enc) (C:=Tryz.checked) (os:=os) (X:=fun w _=>laidMetH Tryz.prog Rows.tollKnownRow.laid w) false (laidWorld os #[]) wArgs 8 Y kR kR kR kR kR (laidWorld_met os)) ?_
 intro W base args ds gs before hval0 hW hL
 have hW':=hW
 obtain⟨p,q,hA0,hV,rfl,_,_⟩:=hW
 have hA:DataW.TrodAll enc Tryz.prog W 0 (fun _=>true) true Tryz.f6.params.toList args.toList ds p:=hA0
 rw [show Tryz.f6.params.toList=[]from rfl]at hA
 obtain⟨rfl,rfl,rfl⟩:=trodAll_none hA
 obtain⟨rfl,rfl⟩:=trodVars_none hV
 clear hA0 hval0
 simp only [List.append_nil]at hW'
 obtain⟨u4,hu4,hgl⟩:=row_view (W:=W) (a:=⟨0,0,none⟩) (cs:=[rtV 101]) (fun i x hi=>by
  cases i with
  | zero=>cases hi;exact handle_of_laid hL
  | succ j=>simp at hi)
 obtain⟨M,last,o,w',t',r1,r2,r3,r4⟩:=law_run (P:=Tryz.prog) (W:=W) (v:=u4) (args:=[]) Tryz.func6 rfl kR hu4.ag hu4.ro (known_run hgl)
 refine⟨M,last,o,w',t',r1,r2,r3,r4.mono fun x hp=>?_⟩
 obtain⟨rfl,hbel0,hos⟩:=hp
 have hbel:Below W.heap.size W w':=by
  have e:w'.os=W.os:=hos
  rw [←e]at hbel0
  exact hbel0
 exact⟨_,_,_,[],[],[],hW',trodAll_mk1 (shut_bool Tryz.underlying4 true),trodAll_mk0,Y,hbel.frame _,fun h=>by cases h⟩
theorem known_row:Rows.TollKnownSaid:=
 OpenClaim.holds_of_wide_leaving 6 Tryz.f6 rfl rfl rfl rfl rfl rfl rfl ⟨rfl,rfl,rfl,rfl,rfl⟩ rfl rfl rfl rfl rfl kR Tryz.func6 j6
  (of_decide_eq_true kR) (by unfold Func.isWrapper;first|(rw [if_pos (by decide +kernel)];kernel_rfl)|(rw [if_neg (by decide +kernel)];exact⟨Y,Y⟩))
  (fun os started H enc _=>known_lifted os started H enc)
theorem known_goes:Rows.tollKnownRow.goesBy Tryz.pinned.checked.prog=true:=by kernel_rfl
theorem known_said:Rows.TollKnownCardSaid:=by
 refine⟨Claim7.tied_new_at .later [.handle] true (Claim7.new_of_sixth known_row (true,"1f0fb3d9bd39dc94342ad813ef40a8790ad3597f7e6157ac050b8b6fa7afc33b") true rfl ⟨rfl,rfl⟩ kR kR
  (fun f fn hf hfn=>?_)) kR,fun D hD=>(by cases hD),tollKnown_row_tie,(fun h=>by cases h),known_goes.symm⟩
 obtain rfl:f=6:=(Option.some.inj ((show Tryz.prog.funcNamed "palfrey/palfreylaw12.TollKnown" = some 6 by kernel_rfl).symm.trans hf)).symm
 obtain rfl:fn=Tryz.f6:=(Option.some.inj (Tryz.func6.symm.trans hfn)).symm
 refine⟨by kernel_rfl,fun j t ht=>?_⟩
 simp [Tryz.params6]at ht
end Go.Proofs.YtclejblcnfaeaaaGreatDoor
end
#print axioms Go.Proofs.YtclejblcnfaeaaaGreatDoor.known_said
