/- Part 39. -/
import Derived.Test.YtclejblcnfaeaaaGreatDoorPbl
set_option linter.all false
section
namespace Go.Proofs.YtclejblcnfaeaaaGreatDoor
open Go Go.Pal Go.Pal.To Go.Conc View
open Go.Proofs.Tryz
set_option maxHeartbeats 4000000
set_option maxRecDepth 20000
section
variable{P:Program}{mn:Who}(T:Tab P){n:Nat}{ops:Array Oper}{i d:Nat}{Q:Exit→St→View→Prop}{ds:List Deferred}{ρ:Regs}{β:A0e}{v:View}
theorem S_eqlA{S:List Rec}{done ms todo:List Nat}{v0:View}{t2 ty:TypeId}{pos:String}{af:Array Edge}{gu:Option (Nat×Bool)}{y z:Operand}{a b:MA}(ho:ops[i]?=some ⟨some d,.binOp .eql 40 y z t2,ty,pos,af,gu⟩)(hw:A0p ops gu ρ=some true)(hn:Nat.blt d n=true)(hB:A9k ops ms done i=true)(hy:ρ.val y=some a.val)(hz:ρ.val z=some b.val)
  (h:XS prog mn n ops ms v0 Q todo S (i::done) ⟨ds,(d,.bool (decide (a=b)))::ρ,β⟩ v):XS prog mn n ops ms v0 Q (i::todo) S done ⟨ds,ρ,β⟩ v:=
 A5d (vq:=fun _=>none) ho hn hB (fun a hf=>.inl ⟨A0m hf (A0j hw),fun u _=>sx_eqlA (A0k hf _ _ hy) (A0k hf _ _ hz) ⟨Le.refl _,rfl⟩⟩) (fun _ _ b x e=>by cases e) (B1m fun b x e=>by cases e) h
end
theorem k_parse:paV ⟨#[50,33,48,58,49]⟩ = .tuple (List.toArray [MA.val ⟨2,2,0,1⟩,intV 0]):=by kernel_rfl
theorem k_write:wrV ⟨1,0,0,7⟩ = .tuple (List.toArray [.string ⟨#[63,55]⟩,intV 0]):=by kernel_rfl
theorem k_read:readL [63,48,10]=([⟨1,0,0,0⟩],0):=by decide +kernel
theorem k_hold:holdR 3 [0,1] firstL=(0,[⟨#[111,107]⟩,⟨#[111,107]⟩,⟨#[49]⟩],[1,2]):=by decide +kernel
theorem k_join:joinR 3 [0,1] firstL secondL=(0,[⟨0,0,1,0⟩,⟨0,1,2,1⟩,⟨1,0,0,0⟩,⟨0,1,0,0⟩,⟨2,0,2,1⟩],[0,1,1,2,2]):=by decide +kernel
theorem k_count:countR 2 [0] roundL overL=(2,3,0):=by decide +kernel
theorem k_both:bothR 2 [0] roundL overL 0=(3,0):=by decide +kernel
theorem k_struck{r:Int×List Int×List Int}(h:A8t 3 [0,1] overL awayL r):r=(0,[],[0]):=by
 unfold A8t at h
 rw [if_neg (by decide +kernel)]at h
 obtain⟨s,hs,h1,h2,h3⟩:=h
 have hs4:s<4:=hs
 have hr2:A7t [0,1] overL awayL 2:=by unfold A7t rightS;decide +kernel
 have e:s=0∨s=1∨s=2∨s=3:=oM
 rcases e with rfl|rfl|rfl|rfl
 ·exact absurd h2 (by unfold A7t rightS;decide +kernel)
 ·exact absurd (show A5c _ _ _ _ _ _ from by unfold A5c;decide +kernel) (h3 2 dM hr2)
 ·rw [h1];decide +kernel
 ·exact absurd (show A5c _ _ _ _ _ _ from by unfold A5c;decide +kernel) (h3 2 dM hr2)
theorem A5v{mn:Who}{v:View}{k:FuncId}{args:List Value}{α:Type}[DecidableEq α]{x:α}(h:Ret1 prog mn k args (.bool (decide (x=x))) v):Ret1 prog mn k args (.bool true) v:=by
 rwa [decide_eq_true rfl]at h
section
variable{v:View}
theorem readV{mn:Who}:A6l prog mn 38 [.string ⟨#[63,48,10]⟩] (fun x u=>∃a c,x = .tuple (List.toArray [.slice a 1 c,intV 0])∧ActsAt u a [⟨1,0,0,0⟩]) v:=
 CallsB.toV (read_x (s:=⟨#[63,48,10]⟩) dM) fun x β' hR hb=>by
  obtain⟨a,c,h1,h2⟩:=hR
  simp only [show readL [63,48,10]=([⟨1,0,0,0⟩],0)from k_read]at h1 h2
  exact⟨a,c,h1,RowAt.own hb (fun p=>Nat.le_refl _) h2⟩
theorem held_x:Ret1 prog ⟨true,true⟩ 19 [] (.bool true) v:=by
 have hlv:v.Le v:=Le.refl v
 refine A0d tab func19 Y nB (args:=[]) ?_
 refine su ?_
 refine Q_op fun ho=>A0u ho bod34 Y Y Y Y Y (show Ret1 _ _ _ _ _ _ from k_parse ▸ parse_x (s:=⟨#[50,33,48,58,49]⟩)) ?_
 clear ho
 refine sw fun bx=>?_
 refine Q_op fun ho=>A0u ho bod36 Y Y Y Y Y (asks_x (h:=7)) ?_
 clear ho
 refine su ?_
 refine Q_op fun ho=>A0u ho bod37 Y Y Y Y Y (show Ret1 _ _ _ _ _ _ from k_write ▸ write_x (x:=⟨1,0,0,7⟩)) ?_
 clear ho
 refine su ?_
 refine Q_op fun ho=>A1p ho bod38 Y Y Y Y Y (readV) (fun x0 v0 hl0 h0=>?_)
 clear ho
 replace hlv:=hlv.trans hl0
 clear hl0
 obtain⟨a0,c0,rfl,r0⟩:=h0
 refine su ?_
 refine Q_op fun ho=>A1p ho bod33 Y Y Y Y Y (fair_x) (fun x w hl hx=>?_)
 clear ho
 replace r0:=r0.le hl
 replace hlv:=hlv.trans hl
 clear hl
 obtain⟨aF,cF,rfl,rF⟩:=hx
 refine Q_op fun ho=>A1p ho bod42 Y Y Y Y Y (bkFirst_x) (fun x w hl hx=>?_)
 clear ho
 replace r0:=r0.le hl
 replace rF:=rF.le hl
 replace hlv:=hlv.trans hl
 clear hl
 obtain⟨aG,cG,rfl,rG⟩:=hx
 refine Q_op fun ho=>A1p ho bod10 Y Y Y Y Y (hold_x rF dM rG dM) (fun x w hl hx=>?_)
 clear ho
 replace r0:=r0.le hl
 replace rF:=rF.le hl
 replace rG:=rG.le hl
 replace hlv:=hlv.trans hl
 clear hl
 rw [k_hold]at hx;obtain⟨a1,c1,a2,c2,rfl,r1,r2⟩:=hx
 clear rF rG
 refine su ?_
 refine Q_op fun ho=>A1p ho bod33 Y Y Y Y Y (fair_x) (fun x w hl hx=>?_)
 clear ho
 replace r0:=r0.le hl
 replace r1:=r1.le hl
 replace r2:=r2.le hl
 replace hlv:=hlv.trans hl
 clear hl
 obtain⟨aF,cF,rfl,rF⟩:=hx
 refine Q_op fun ho=>A1p ho bod42 Y Y Y Y Y (bkFirst_x) (fun x w hl hx=>?_)
 clear ho
 replace r0:=r0.le hl
 replace r1:=r1.le hl
 replace r2:=r2.le hl
 replace rF:=rF.le hl
 replace hlv:=hlv.trans hl
 clear hl
 obtain⟨aG,cG,rfl,rG⟩:=hx
 refine Q_op fun ho=>A1p ho bod41 Y Y Y Y Y (bkSecond_x) (fun x w hl hx=>?_)
 clear ho
 replace r0:=r0.le hl
 replace r1:=r1.le hl
 replace r2:=r2.le hl
 replace rF:=rF.le hl
 replace rG:=rG.le hl
 replace hlv:=hlv.trans hl
 clear hl
 obtain⟨aH,cH,rfl,rH⟩:=hx
 refine Q_op fun ho=>A1p ho bod48 Y Y Y Y Y (join_x rF dM rG rH dM dM) (fun x w hl hx=>?_)
 clear ho
 replace r0:=r0.le hl
 replace r1:=r1.le hl
 replace r2:=r2.le hl
 replace rF:=rF.le hl
 replace rG:=rG.le hl
 replace rH:=rH.le hl
 replace hlv:=hlv.trans hl
 clear hl
 rw [k_join]at hx;obtain⟨a3,c3,a4,c4,rfl,r3,r4⟩:=hx
 clear rF rG rH
 refine su ?_
 refine Q_op fun ho=>A1p ho bod49 Y Y Y Y Y (quiet_x) (fun x w hl hx=>?_)
 clear ho
 replace r0:=r0.le hl
 replace r1:=r1.le hl
 replace r2:=r2.le hl
 replace r3:=r3.le hl
 replace r4:=r4.le hl
 replace hlv:=hlv.trans hl
 clear hl
 obtain⟨aF,cF,rfl,rF⟩:=hx
 refine Q_op fun ho=>A1p ho bod50 Y Y Y Y Y (bkRound_x) (fun x w hl hx=>?_)
 clear ho
 replace r0:=r0.le hl
 replace r1:=r1.le hl
 replace r2:=r2.le hl
 replace r3:=r3.le hl
 replace r4:=r4.le hl
 replace rF:=rF.le hl
 replace hlv:=hlv.trans hl
 clear hl
 obtain⟨aG,cG,rfl,rG⟩:=hx
 refine Q_op fun ho=>A1p ho bod44 Y Y Y Y Y (bkOver_x) (fun x w hl hx=>?_)
 clear ho
 replace r0:=r0.le hl
 replace r1:=r1.le hl
 replace r2:=r2.le hl
 replace r3:=r3.le hl
 replace r4:=r4.le hl
 replace rF:=rF.le hl
 replace rG:=rG.le hl
 replace hlv:=hlv.trans hl
 clear hl
 obtain⟨aH,cH,rfl,rH⟩:=hx
 refine Q_op fun ho=>A0u ho bod43 Y Y Y Y Y (show Ret1 _ _ _ _ (.tuple (List.toArray [intV 2,intV 3,intV 0])) _ from by have:=count_x (P:=2) (cD:=cF) (cA:=cG) (cB:=cH) rF dM rG rH dM dM;rw [k_count]at this;exact this) ?_
 clear ho
 refine su ?_
 clear rF rG rH
 refine Q_op fun ho=>A1p ho bod49 Y Y Y Y Y (quiet_x) (fun x w hl hx=>?_)
 clear ho
 replace r0:=r0.le hl
 replace r1:=r1.le hl
 replace r2:=r2.le hl
 replace r3:=r3.le hl
 replace r4:=r4.le hl
 replace hlv:=hlv.trans hl
 clear hl
 obtain⟨aF,cF,rfl,rF⟩:=hx
 refine Q_op fun ho=>A1p ho bod50 Y Y Y Y Y (bkRound_x) (fun x w hl hx=>?_)
 clear ho
 replace r0:=r0.le hl
 replace r1:=r1.le hl
 replace r2:=r2.le hl
 replace r3:=r3.le hl
 replace r4:=r4.le hl
 replace rF:=rF.le hl
 replace hlv:=hlv.trans hl
 clear hl
 obtain⟨aG,cG,rfl,rG⟩:=hx
 refine Q_op fun ho=>A1p ho bod44 Y Y Y Y Y (bkOver_x) (fun x w hl hx=>?_)
 clear ho
 replace r0:=r0.le hl
 replace r1:=r1.le hl
 replace r2:=r2.le hl
 replace r3:=r3.le hl
 replace r4:=r4.le hl
 replace rF:=rF.le hl
 replace rG:=rG.le hl
 replace hlv:=hlv.trans hl
 clear hl
 obtain⟨aH,cH,rfl,rH⟩:=hx
 refine Q_op fun ho=>A0u ho bod47 Y Y Y Y Y (show Ret1 _ _ _ _ (.tuple (List.toArray [intV 3,intV 0])) _ from by have:=both_x (P:=2) (cD:=cF) (cA:=cG) (cB:=cH) (act:=0) rF dM rG rH dM dM;rw [k_both]at this;exact this) ?_
 clear ho
 refine su ?_
 clear rF rG rH
 refine Q_op fun ho=>A1p ho bod33 Y Y Y Y Y (fair_x) (fun x w hl hx=>?_)
 clear ho
 replace r0:=r0.le hl
 replace r1:=r1.le hl
 replace r2:=r2.le hl
 replace r3:=r3.le hl
 replace r4:=r4.le hl
 replace hlv:=hlv.trans hl
 clear hl
 obtain⟨aF,cF,rfl,rF⟩:=hx
 refine Q_op fun ho=>A1p ho bod44 Y Y Y Y Y (bkOver_x) (fun x w hl hx=>?_)
 clear ho
 replace r0:=r0.le hl
 replace r1:=r1.le hl
 replace r2:=r2.le hl
 replace r3:=r3.le hl
 replace r4:=r4.le hl
 replace rF:=rF.le hl
 replace hlv:=hlv.trans hl
 clear hl
 obtain⟨aG,cG,rfl,rG⟩:=hx
 refine Q_op fun ho=>A1p ho bod45 Y Y Y Y Y (bkAway_x) (fun x w hl hx=>?_)
 clear ho
 replace r0:=r0.le hl
 replace r1:=r1.le hl
 replace r2:=r2.le hl
 replace r3:=r3.le hl
 replace r4:=r4.le hl
 replace rF:=rF.le hl
 replace rG:=rG.le hl
 replace hlv:=hlv.trans hl
 clear hl
 obtain⟨aH,cH,rfl,rH⟩:=hx
 refine Q_op fun ho=>A1p ho bod51 Y Y Y Y Y (struck_x rF dM rG rH dM dM) (fun x w hl hx=>?_)
 clear ho
 replace r0:=r0.le hl
 replace r1:=r1.le hl
 replace r2:=r2.le hl
 replace r3:=r3.le hl
 replace r4:=r4.le hl
 replace rF:=rF.le hl
 replace rG:=rG.le hl
 replace rH:=rH.le hl
 replace hlv:=hlv.trans hl
 clear hl
 obtain⟨a5,c5,a6,c6,r,rfl,r5,r6,hr⟩:=hx
 clear rF rG rH
 obtain rfl:=k_struck hr
 refine su ?_
 refine A1d [32,58,59,60,64,65,69,70,74,75,76,77,78,79,80,84,85,89,90] [0,1,2,3,4,5,6,7,8,9,10,11,12,13,14,15,16,17,18,19,20,21,22,23,24,25,26,27,28,29,30,31,32,33,34,35,36,37,38,39,40,41,42,43,44,45,46,47,48,49,50,51,52,53,54,55,56,57,58,59,60,61,62,63,64,65,66,67,68,69,70,71,72,73,74,75,76,77,78,79,80,81,82,83,84,85,86,87,88,89,90,91,92] A1e Y kR ?_
 refine su ?_
 refine S_do kR (A0u Y bod74 Y Y Y Y Y (claims_x) ⟨Le.refl _,kp,?_⟩)
 refine su ?_
 refine S_eqlA (a:=⟨2,2,0,1⟩) (b:=⟨2,2,0,1⟩) Y Y Y kR Y Y ?_
 refine su ?_
 rw [show decide ((⟨2,2,0,1⟩:MA)=⟨2,2,0,1⟩)=true from by decide]
 refine su ?_
 rw [show(({data:=#[63,55] }:ByteArray).toList==({data:=#[63,55] }:ByteArray).toList)=true from beq_self_eq_true _]
 refine su ?_
 refine S_do kR (A0u Y bod36 Y Y Y Y Y (asks_x) ⟨Le.refl _,kp,?_⟩)
 refine su ?_
 refine S_do kR (A3w tab Y Y Y Y Y Y Y Y Y Y (fun b1 d1 hL=>⟨Le.refl _,kp,?_⟩))
 refine su ?_
 refine S_do kR (A0o [(b1,d1,40)] _ Y bod30 Y Y Y Y Y (fun _=>rfl) (Ret1.box (fun hb=>A5v (sameActs_x (xs:=[⟨1,0,0,0⟩]) (ys:=[⟨1,0,0,0⟩]) ((r0.le (A0g _ _)).le (A0g _ _)) (RowAt.own hb (fun p=>Nat.le_refl _) hL) dM dM))) (fun x β' hR=>⟨Le.refl _,?_,?_⟩))
 ·exact kp
 obtain⟨rfl,rfl⟩:=hR
 refine su ?_
 as_aux_lemma=>
  refine S_do kR (A3w tab Y Y Y Y Y Y Y Y Y Y (fun b2 d2 hL=>⟨Le.refl _,kp,?_⟩))
  refine su ?_
  refine S_do kR (A0o [(b2,d2,9)] _ Y bod23 Y Y Y Y Y (fun _=>rfl) (Ret1.box (fun hb=>A5v (sameWords_x (xs:=[⟨#[111,107]⟩,⟨#[111,107]⟩,⟨#[49]⟩]) (ys:=[⟨#[111,107]⟩,⟨#[111,107]⟩,⟨#[49]⟩]) ((r1.le (A0g _ _)).le (A0g _ _)) (RowAt.own hb (fun p=>Nat.le_refl _) hL) dM dM))) (fun x β' hR=>⟨Le.refl _,?_,?_⟩))
  ·exact kp
  obtain⟨rfl,rfl⟩:=hR
  refine su ?_
  as_aux_lemma=>
   refine S_do kR (A3w tab Y Y Y Y Y Y Y Y Y Y (fun b3 d3 hL=>⟨Le.refl _,kp,?_⟩))
   refine su ?_
   refine S_do kR (A0o [(b3,d3,3)] _ Y bod24 Y Y Y Y Y (fun _=>rfl) (Ret1.box (fun hb=>A5v (A9n (xs:=[1,2]) (ys:=[1,2]) ((r2.le (A0g _ _)).le (A0g _ _)) (RowAt.own hb (fun p=>Nat.le_refl _) hL) dM dM))) (fun x β' hR=>⟨Le.refl _,?_,?_⟩))
   ·exact kp
   obtain⟨rfl,rfl⟩:=hR
   refine su ?_
   refine S_do kR (A0u Y B0r Y Y Y Y Y (A4j) ⟨Le.refl _,kp,?_⟩)
   refine su ?_
   refine S_do kR (A0u Y B0r Y Y Y Y Y (A4j) ⟨Le.refl _,kp,?_⟩)
   refine su ?_
   refine S_do kR (A0u Y bod36 Y Y Y Y Y (asks_x) ⟨Le.refl _,kp,?_⟩)
   refine su ?_
   refine S_do kR (A0u Y B0r Y Y Y Y Y (A4j) ⟨Le.refl _,kp,?_⟩)
   refine su ?_
   refine S_do kR (A0u Y bod74 Y Y Y Y Y (claims_x) ⟨Le.refl _,kp,?_⟩)
   refine su ?_
   as_aux_lemma=>
    refine S_do kR (A3w tab Y Y Y Y Y Y Y Y Y Y (fun b4 d4 hL=>⟨Le.refl _,kp,?_⟩))
    refine su ?_
    refine S_do kR (A0o [(b4,d4,40)] _ Y bod30 Y Y Y Y Y (fun _=>rfl) (Ret1.box (fun hb=>A5v (sameActs_x (xs:=[⟨0,0,1,0⟩,⟨0,1,2,1⟩,⟨1,0,0,0⟩,⟨0,1,0,0⟩,⟨2,0,2,1⟩]) (ys:=[⟨0,0,1,0⟩,⟨0,1,2,1⟩,⟨1,0,0,0⟩,⟨0,1,0,0⟩,⟨2,0,2,1⟩]) ((r3.le (A0g _ _)).le (A0g _ _)) (RowAt.own hb (fun p=>Nat.le_refl _) hL) dM dM))) (fun x β' hR=>⟨Le.refl _,?_,?_⟩))
    ·exact kp
    obtain⟨rfl,rfl⟩:=hR
    refine su ?_
    as_aux_lemma=>
     refine S_do kR (A3w tab Y Y Y Y Y Y Y Y Y Y (fun b5 d5 hL=>⟨Le.refl _,kp,?_⟩))
     refine su ?_
     refine S_do kR (A0o [(b5,d5,3)] _ Y bod24 Y Y Y Y Y (fun _=>rfl) (Ret1.box (fun hb=>A5v (A9n (xs:=[0,1,1,2,2]) (ys:=[0,1,1,2,2]) ((r4.le (A0g _ _)).le (A0g _ _)) (RowAt.own hb (fun p=>Nat.le_refl _) hL) dM dM))) (fun x β' hR=>⟨Le.refl _,?_,?_⟩))
     ·exact kp
     obtain⟨rfl,rfl⟩:=hR
     refine su ?_
     as_aux_lemma=>
      refine S_do kR (A3w tab Y Y Y Y Y Y Y Y Y Y (fun b6 d6 hL=>⟨Le.refl _,kp,?_⟩))
      refine su ?_
      refine S_do kR (A0o [(b6,d6,3)] _ Y bod24 Y Y Y Y Y (fun _=>rfl) (Ret1.box (fun hb=>A5v (A9n (xs:=[0]) (ys:=[0]) ((r6.le (A0g _ _)).le (A0g _ _)) (RowAt.own hb (fun p=>Nat.le_refl _) hL) dM dM))) (fun x β' hR=>⟨Le.refl _,?_,?_⟩))
      ·exact kp
      obtain⟨rfl,rfl⟩:=hR
      refine su ?_
      refine A0f tab [] (by exact .tmp rfl .nil) (Back.le hlv cntL) ?_
      exact⟨Y,Y⟩
end
end Go.Proofs.YtclejblcnfaeaaaGreatDoor
end
