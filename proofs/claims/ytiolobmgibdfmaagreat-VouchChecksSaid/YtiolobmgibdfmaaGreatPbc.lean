/- Part 29. -/
import Derived.Test.YtiolobmgibdfmaaGreatPba
set_option linter.all false
section
namespace Go.Proofs.YtiolobmgibdfmaaGreat
open Go Go.Pal Go.Pal.Vo Go.Conc View
open Go.Proofs.Tryz
set_option maxHeartbeats 4000000
set_option maxRecDepth 20000
theorem RetB.imp{R R':Value→A0j→Prop}(h:∀r β,R r β→R' r β):∀e β,RetB R e β→RetB R' e β:=fun e β hR=>by
 cases e with
 | ret x=>exact h x β hR
 | pan ch=>exact hR.elim
section
variable{v:View}{wa:Option Addr}{wc:Nat}
theorem count_m(h:WdsAt v wa mareW):CallsB prog ⟨true,true⟩ 25 #[boV 3 1 wa mareW.length wc] (RetB fun r β'=>r = .tuple #[.int .i64 2,.int .i64 0]∧β'=[]) [] v:=
 (Count_x h dM).mono (RetB.imp fun r β ⟨hr,hb⟩=>⟨by
  rw [hr];unfold countV
  rw [mare_known.1,if_pos Z,show A0g (3:Int).toNat (1:Int).toNat mareW=A0g 3 1 mareW from Z,mare_known.2.1]
  rfl,hb⟩)
theorem fewest_m(h:WdsAt v wa moreW):CallsB prog ⟨true,true⟩ 27 #[boV 3 1 wa moreW.length wc] (RetB fun r β'=>∃a1 c1 a2 c2 β1 β2,r = .tuple #[wldV a1 1 c1 a2 0 c2,.int .i64 0]∧OwnS 3 1 β1 a1 1 c1 ([2].map natV)∧β'=β1++β2) [] v:=
 (Fewest_x h dM).mono (RetB.imp fun r β ⟨t,hr,hT⟩=>by
  rw [more_known.2.1]at hT
  rw [more_known.1]at hr
  obtain⟨β1,β2,x1,x2,rfl,⟨a1,c1,rfl,h1⟩,⟨a2,c2,rfl,h2⟩,rfl⟩:=hT
  have e1:lst ((4,0):Wl).1=[2]:=by decide
  have e2:lst ((4,0):Wl).2=[]:=by decide
  rw [e1]at h1 hr
  rw [e2]at h2 hr
  exact⟨a1,c1,a2,c2,β1,β2,hr,h1,Z⟩)
theorem liars_m(h:WdsAt v wa eachW):CallsB prog ⟨true,true⟩ 29 #[boV 2 0 wa eachW.length wc] (RetB fun r β'=>r = .tuple #[A5u 0 2,.int .i64 0]∧β'=[]) [] v:=
 (Liars_x h dM).mono (RetB.imp fun r β ⟨hr,hb⟩=>⟨by
  rw [hr,each_known.1,each_known.2.1]
  have e1:Vo.cnt ((3,0):Wl).1=2:=by decide
  have e2:Vo.cnt ((0,0):Wl).1=0:=by decide
  show Value.tuple #[.agg #[.int .i64 (((2:Int).toNat:Int)-(Vo.cnt ((3,0):Wl).1:Nat)),.int .i64 (((2:Int).toNat:Int)-(Vo.cnt ((0,0):Wl).1:Nat))],.int .i64 0]=_
  rw [e1,e2]
  rfl,hb⟩)
theorem person_m(h:WdsAt v wa eachW):CallsB prog ⟨true,true⟩ 41 #[boV 2 0 wa eachW.length wc,.int .i64 0,.bool true] (RetB fun r β'=>r = .tuple #[.int .i64 1,.int .i64 0]∧β'=[]) [] v:=
 (Person_x (x:=0) (best:=true) h dM).mono (RetB.imp fun r β ⟨hr,hb⟩=>⟨by
  rw [hr,each_known.2.2.1,if_pos rfl]
  show Value.tuple #[.int .i64 (verd (someL true (A0g 2 0 eachW)) (fun w=>bit w.1 0)),.int .i64 0]=_
  rw [each_known.2.2.2],hb⟩)
theorem follows_m(h:WdsAt v wa mareW):CallsB prog ⟨true,true⟩ 42 #[boV 3 1 wa mareW.length wc,wdV ⟨0,6,2,0⟩] (RetB fun r β'=>r = .tuple #[.int .i64 1,.int .i64 0]∧β'=[]) [] v:=
 (B4e h dM).mono (RetB.imp fun r β ⟨hr,hb⟩=>⟨by
  rw [hr,mare_known.2.2.1,if_pos rfl]
  show Value.tuple #[.int .i64 (verd (A0g 3 1 mareW) (A4h 3 ⟨0,6,2,0⟩)),.int .i64 0]=_
  rw [mare_known.2.2.2.1],hb⟩)
theorem silent_m(h:WdsAt v wa itselfW)(hc:itselfW.length≤wc):CallsB prog ⟨true,true⟩ 33 #[boV 1 0 wa itselfW.length wc] (RetB fun r β'=>∃a c,r = .tuple #[.slice a 1 c,.int .i64 0]∧RowAt (v.union (A0e β')) a ([0].map natV)) [] v:=
 (Silent_x h dM hc).mono (RetB.imp fun r β ⟨t,hr,hT⟩=>by
  rw [itself_known.1]at hr hT
  rw [if_pos Z,show B2w (1:Int).toNat (0:Int).toNat itselfW=B2w 1 0 itselfW from Z,itself_known.2]at hT
  obtain⟨a,c,rfl,hrow⟩:=hT
  exact⟨a,c,hr,hrow⟩)
theorem ask_m(h:WdsAt v wa moreW):CallsB prog ⟨true,true⟩ 36 #[boV 3 1 wa moreW.length wc] (RetB fun r β'=>r = .tuple #[.int .i64 1,.int .i64 1,.int .i64 0]∧β'=[]) [] v:=
 (Ask_x h dM).mono (RetB.imp fun r β ⟨hr,hb⟩=>⟨by
  rw [hr];unfold askV
  rw [more_known.2.2.1,if_pos Z,show A0g (3:Int).toNat (1:Int).toNat moreW=A0g 3 1 moreW from Z,show(3:Int).toNat=3 from Z,more_known.2.2.2.1,more_known.2.2.2.2.1],hb⟩)
theorem proof_m(h:WdsAt v wa moreW):CallsB prog ⟨true,true⟩ 38 #[boV 3 1 wa moreW.length wc,.int .i64 0] (RetB fun r β'=>∃a c,r = .tuple #[.slice a 1 c,.int .i64 0]∧RowAt (v.union (A0e β')) a ([1].map natV)) [] v:=
 (Proof_x (x:=0) h dM).mono (RetB.imp fun r β ⟨t,hr,hT⟩=>by
  rw [more_known.2.2.2.2.2.1]at hr
  rw [more_known.2.2.2.2.2.2]at hT
  obtain⟨a,c,rfl,hrow⟩:=hT
  exact⟨a,c,hr,hrow⟩)
theorem wrong_m{a1 a2:Option Addr}{c1 c2:Nat}(h:WdsAt v wa mareW)(h1:RowAt v a1 ([(0:Int),1].map (.int .i64)))(h2:RowAt v a2 ([(0:Int)].map (.int .i64))):CallsB prog ⟨true,true⟩ 56 #[boV 3 1 wa mareW.length wc,wldV a1 2 c1 a2 1 c2] (RetB fun r β'=>∃a c,r = .tuple #[.slice a 2 c,.int .i64 0]∧OwnS 3 1 β' a 2 c ([0,2].map natV)) [] v:=
 (Wrong_x (tr:=[0,1]) (so:=[0]) h dM h1 h2 dM dM).mono (RetB.imp fun r β ⟨t,hr,hT⟩=>by
  rw [mare_known.2.2.2.2.1]at hr hT
  rw [if_pos Z,show B4l (3:Int).toNat mareW [0,1] [0]=B4l 3 mareW [0,1] [0]from Z,mare_known.2.2.2.2.2]at hT
  obtain⟨a,c,rfl,hS⟩:=hT
  exact⟨a,c,hr,hS⟩)
theorem A9k:Ret1 prog ⟨true,true⟩ 21 [] (.bool true) v:=by
 refine A0f tab func21 Z nB (args:=[]) ?_
 have hle:v.Le v:=Le.refl _
 repeat (first|refine st ?_|refine qb fun bx=>?_)
 refine Q_op fun ho=>A0i [] _ ho bod73 Z Z Z Z Z A1n (mare_x) (fun x β' hR=>?_)
 clear ho
 obtain⟨a,cap,rfl,hS⟩:=hR
 have hcap:mareW.length≤cap:=(A5w hS dM).choose_spec.choose_spec.2.2.1
 refine A0w (β1:=β') (β2:=_) (fun _=>rfl) (fun hb=>?_)
 have hws:WdsAt (v.union (A0e (β'))) a mareW:=A2m hb hS
 replace hle:=hle.trans (A0b v (A0e (β')))
 generalize v.union (A0e (β'))=u1 at *
 clear hb
 clear hS
 refine Q_op fun ho=>A0i [] _ ho bod25 Z Z Z Z Z A1n (count_m (hws.le (A0b _ _))) (fun x β' hR=>?_)
 clear ho
 obtain⟨rfl,rfl⟩:=hR
 repeat (first|refine st ?_|refine qb fun bx=>?_)
 clear hws hcap
 refine Q_op fun ho=>A0i [] _ ho bod75 Z Z Z Z Z A1n (more_x) (fun x β' hR=>?_)
 clear ho
 obtain⟨a,cap,rfl,hS⟩:=hR
 have hcap:moreW.length≤cap:=(A5w hS dM).choose_spec.choose_spec.2.2.1
 refine A0w (β1:=β') (β2:=_) (fun _=>rfl) (fun hb=>?_)
 have hws:WdsAt (u1.union (A0e (β'))) a moreW:=A2m hb hS
 replace hle:=hle.trans (A0b u1 (A0e (β')))
 generalize u1.union (A0e (β'))=u2 at *
 clear hb
 clear hS
 refine Q_op fun ho=>A0i [] _ ho bod27 Z Z Z Z Z A1n (fewest_m (hws.le (A0b _ _))) (fun x β' hR=>?_)
 clear ho
 obtain⟨aw1,cw1,aw2,cw2,βw1,βw2,rfl,hwS,rfl⟩:=hR
 clear hws hcap
 refine A0w (β1:=βw1++βw2) (β2:=_) (fun _=>rfl) (fun hb=>?_)
 have hw:RowAt (u2.union (A0e (βw1++βw2))) aw1 ([2].map natV):=RowAt.own hb (show Subm βw1 (βw1++βw2)from cntL) hwS
 replace hle:=hle.trans (A0b u2 (A0e (βw1++βw2)))
 generalize u2.union (A0e (βw1++βw2))=u3 at *
 clear hb
 clear hwS
 repeat (first|refine st ?_|refine qb fun bx=>?_)
 refine A0w (β1:=[(bx,(wldV aw1 1 cw1 aw2 0 cw2).cells,38)]) (β2:=[]) (show ∀p,Pal.cnt p [(bx,(wldV aw1 1 cw1 aw2 0 cw2).cells,38)]=Pal.cnt p ([(bx,(wldV aw1 1 cw1 aw2 0 cw2).cells,38)]++[])from cntA) (fun hb=>?_)
 have hv3:(u3.union (A0e ([(bx,(wldV aw1 1 cw1 aw2 0 cw2).cells,38)]))) bx=some (true,.cells (wldV aw1 1 cw1 aw2 0 cw2).cells 38 (0,0)):=A9c hb (b:=bx) .head
 replace hle:=hle.trans (A0b u3 (A0e ([(bx,(wldV aw1 1 cw1 aw2 0 cw2).cells,38)])))
 replace hw:=RowAt.le hw (A0b u3 (A0e ([(bx,(wldV aw1 1 cw1 aw2 0 cw2).cells,38)])))
 generalize u3.union (A0e ([(bx,(wldV aw1 1 cw1 aw2 0 cw2).cells,38)]))=u4 at *
 clear hb
 refine Q_op fun ho=>A0i [] _ ho bod77 Z Z Z Z Z A1n (each_x) (fun x β' hR=>?_)
 clear ho
 obtain⟨a,cap,rfl,hS⟩:=hR
 have hcap:eachW.length≤cap:=(A5w hS dM).choose_spec.choose_spec.2.2.1
 refine A0w (β1:=β') (β2:=_) (fun _=>rfl) (fun hb=>?_)
 have hws:WdsAt (u4.union (A0e (β'))) a eachW:=A2m hb hS
 replace hle:=hle.trans (A0b u4 (A0e (β')))
 replace hw:=RowAt.le hw (A0b u4 (A0e (β')))
 replace hv3:=A0b u4 (A0e (β')) _ _ hv3
 generalize u4.union (A0e (β'))=u5 at *
 clear hb
 clear hS
 refine Q_op fun ho=>A0i [] _ ho bod29 Z Z Z Z Z A1n (liars_m (hws.le (A0b _ _))) (fun x β' hR=>?_)
 clear ho
 obtain⟨rfl,rfl⟩:=hR
 repeat (first|refine st ?_|refine qb fun bx=>?_)
 clear hws hcap
 refine A0w (β1:=[(bx,(A5u 0 2).cells,42)]) (β2:=[]) (show ∀p,Pal.cnt p [(bx,(A5u 0 2).cells,42)]=Pal.cnt p ([(bx,(A5u 0 2).cells,42)]++[])from cntA) (fun hb=>?_)
 have hv5:(u5.union (A0e ([(bx,(A5u 0 2).cells,42)]))) bx=some (true,.cells (A5u 0 2).cells 42 (0,0)):=A9c hb (b:=bx) .head
 replace hle:=hle.trans (A0b u5 (A0e ([(bx,(A5u 0 2).cells,42)])))
 replace hw:=RowAt.le hw (A0b u5 (A0e ([(bx,(A5u 0 2).cells,42)])))
 replace hv3:=A0b u5 (A0e ([(bx,(A5u 0 2).cells,42)])) _ _ hv3
 generalize u5.union (A0e ([(bx,(A5u 0 2).cells,42)]))=u6 at *
 clear hb
 refine Q_op fun ho=>A0i [] _ ho bod77 Z Z Z Z Z A1n (each_x) (fun x β' hR=>?_)
 clear ho
 obtain⟨a,cap,rfl,hS⟩:=hR
 have hcap:eachW.length≤cap:=(A5w hS dM).choose_spec.choose_spec.2.2.1
 refine A0w (β1:=β') (β2:=_) (fun _=>rfl) (fun hb=>?_)
 have hws:WdsAt (u6.union (A0e (β'))) a eachW:=A2m hb hS
 replace hle:=hle.trans (A0b u6 (A0e (β')))
 replace hw:=RowAt.le hw (A0b u6 (A0e (β')))
 replace hv3:=A0b u6 (A0e (β')) _ _ hv3
 replace hv5:=A0b u6 (A0e (β')) _ _ hv5
 generalize u6.union (A0e (β'))=u7 at *
 clear hb
 clear hS
 refine Q_op fun ho=>A0i [] _ ho bod41 Z Z Z Z Z A1n (person_m (hws.le (A0b _ _))) (fun x β' hR=>?_)
 clear ho
 obtain⟨rfl,rfl⟩:=hR
 repeat (first|refine st ?_|refine qb fun bx=>?_)
 clear hws hcap
 refine Q_op fun ho=>A0i [] _ ho bod73 Z Z Z Z Z A1n (mare_x) (fun x β' hR=>?_)
 clear ho
 obtain⟨a,cap,rfl,hS⟩:=hR
 have hcap:mareW.length≤cap:=(A5w hS dM).choose_spec.choose_spec.2.2.1
 refine A0w (β1:=β') (β2:=_) (fun _=>rfl) (fun hb=>?_)
 have hws:WdsAt (u7.union (A0e (β'))) a mareW:=A2m hb hS
 replace hle:=hle.trans (A0b u7 (A0e (β')))
 replace hw:=RowAt.le hw (A0b u7 (A0e (β')))
 replace hv3:=A0b u7 (A0e (β')) _ _ hv3
 replace hv5:=A0b u7 (A0e (β')) _ _ hv5
 generalize u7.union (A0e (β'))=u8 at *
 clear hb
 clear hS
 refine Q_op fun ho=>A0s ho bod74 Z Z Z Z Z B1o ?_
 clear ho
 refine Q_op fun ho=>A0i [] _ ho bod42 Z Z Z Z Z A1n (follows_m (hws.le (A0b _ _))) (fun x β' hR=>?_)
 clear ho
 obtain⟨rfl,rfl⟩:=hR
 repeat (first|refine st ?_|refine qb fun bx=>?_)
 clear hws hcap
 refine Q_op fun ho=>A0i [] _ ho bod76 Z Z Z Z Z A1n (itself_x) (fun x β' hR=>?_)
 clear ho
 obtain⟨a,cap,rfl,hS⟩:=hR
 have hcap:itselfW.length≤cap:=(A5w hS dM).choose_spec.choose_spec.2.2.1
 refine A0w (β1:=β') (β2:=_) (fun _=>rfl) (fun hb=>?_)
 have hws:WdsAt (u8.union (A0e (β'))) a itselfW:=A2m hb hS
 replace hle:=hle.trans (A0b u8 (A0e (β')))
 replace hw:=RowAt.le hw (A0b u8 (A0e (β')))
 replace hv3:=A0b u8 (A0e (β')) _ _ hv3
 replace hv5:=A0b u8 (A0e (β')) _ _ hv5
 generalize u8.union (A0e (β'))=u9 at *
 clear hb
 clear hS
 refine Q_op fun ho=>A0i [] [] ho bod33 Z Z Z Z Z cntA (silent_m (v:=u9.union (A0e [])) (hws.le (A0b _ _)) hcap) (fun x β' hR=>?_)
 clear ho
 obtain⟨al,cl,rfl,hlS⟩:=hR
 rw [A2r]at hlS
 clear hws hcap
 refine A0w (β1:=β') (β2:=_) (fun _=>rfl) (fun hb=>?_)
 have hl:RowAt (u9.union (A0e (β'))) al ([0].map natV):=hlS
 replace hle:=hle.trans (A0b u9 (A0e (β')))
 replace hw:=RowAt.le hw (A0b u9 (A0e (β')))
 replace hv3:=A0b u9 (A0e (β')) _ _ hv3
 replace hv5:=A0b u9 (A0e (β')) _ _ hv5
 generalize u9.union (A0e (β'))=u10 at *
 clear hb
 clear hlS
 repeat (first|refine st ?_|refine qb fun bx=>?_)
 refine Q_op fun ho=>A0i [] _ ho bod75 Z Z Z Z Z A1n (more_x) (fun x β' hR=>?_)
 clear ho
 obtain⟨a,cap,rfl,hS⟩:=hR
 have hcap:moreW.length≤cap:=(A5w hS dM).choose_spec.choose_spec.2.2.1
 refine A0w (β1:=β') (β2:=_) (fun _=>rfl) (fun hb=>?_)
 have hws:WdsAt (u10.union (A0e (β'))) a moreW:=A2m hb hS
 replace hle:=hle.trans (A0b u10 (A0e (β')))
 replace hw:=RowAt.le hw (A0b u10 (A0e (β')))
 replace hl:=RowAt.le hl (A0b u10 (A0e (β')))
 replace hv3:=A0b u10 (A0e (β')) _ _ hv3
 replace hv5:=A0b u10 (A0e (β')) _ _ hv5
 generalize u10.union (A0e (β'))=u11 at *
 clear hb
 clear hS
 refine Q_op fun ho=>A0i [] _ ho bod36 Z Z Z Z Z A1n (ask_m (hws.le (A0b _ _))) (fun x β' hR=>?_)
 clear ho
 obtain⟨rfl,rfl⟩:=hR
 repeat (first|refine st ?_|refine qb fun bx=>?_)
 clear hws hcap
 refine Q_op fun ho=>A0i [] _ ho bod75 Z Z Z Z Z A1n (more_x) (fun x β' hR=>?_)
 clear ho
 obtain⟨a,cap,rfl,hS⟩:=hR
 have hcap:moreW.length≤cap:=(A5w hS dM).choose_spec.choose_spec.2.2.1
 refine A0w (β1:=β') (β2:=_) (fun _=>rfl) (fun hb=>?_)
 have hws:WdsAt (u11.union (A0e (β'))) a moreW:=A2m hb hS
 replace hle:=hle.trans (A0b u11 (A0e (β')))
 replace hw:=RowAt.le hw (A0b u11 (A0e (β')))
 replace hl:=RowAt.le hl (A0b u11 (A0e (β')))
 replace hv3:=A0b u11 (A0e (β')) _ _ hv3
 replace hv5:=A0b u11 (A0e (β')) _ _ hv5
 generalize u11.union (A0e (β'))=u12 at *
 clear hb
 clear hS
 refine Q_op fun ho=>A0i [] [] ho bod38 Z Z Z Z Z cntA (proof_m (v:=u12.union (A0e [])) (hws.le (A0b _ _))) (fun x β' hR=>?_)
 clear ho
 obtain⟨ap,cp,rfl,hpS⟩:=hR
 rw [A2r]at hpS
 clear hws hcap
 refine A0w (β1:=β') (β2:=_) (fun _=>rfl) (fun hb=>?_)
 have hp:RowAt (u12.union (A0e (β'))) ap ([1].map natV):=hpS
 replace hle:=hle.trans (A0b u12 (A0e (β')))
 replace hw:=RowAt.le hw (A0b u12 (A0e (β')))
 replace hl:=RowAt.le hl (A0b u12 (A0e (β')))
 replace hv3:=A0b u12 (A0e (β')) _ _ hv3
 replace hv5:=A0b u12 (A0e (β')) _ _ hv5
 generalize u12.union (A0e (β'))=u13 at *
 clear hb
 clear hpS
 repeat (first|refine st ?_|refine qb fun bx=>?_)
 refine Q_op fun ho=>A0i [] _ ho bod73 Z Z Z Z Z A1n (mare_x) (fun x β' hR=>?_)
 clear ho
 obtain⟨a,cap,rfl,hS⟩:=hR
 have hcap:mareW.length≤cap:=(A5w hS dM).choose_spec.choose_spec.2.2.1
 refine A0w (β1:=β') (β2:=_) (fun _=>rfl) (fun hb=>?_)
 have hws:WdsAt (u13.union (A0e (β'))) a mareW:=A2m hb hS
 replace hle:=hle.trans (A0b u13 (A0e (β')))
 replace hw:=RowAt.le hw (A0b u13 (A0e (β')))
 replace hl:=RowAt.le hl (A0b u13 (A0e (β')))
 replace hp:=RowAt.le hp (A0b u13 (A0e (β')))
 replace hv3:=A0b u13 (A0e (β')) _ _ hv3
 replace hv5:=A0b u13 (A0e (β')) _ _ hv5
 generalize u13.union (A0e (β'))=u14 at *
 clear hb
 clear hS
 refine Q_op fun ho=>A3x tab ho Z Z Z Z Z Z Z Z Z (fun b6 c6 hL6=>?_)
 clear ho
 refine Q_op fun ho=>A3x tab ho Z Z Z Z Z Z Z Z Z (fun b7 c7 hL7=>?_)
 clear ho
 refine A0w (β1:=[(b7,c7,3),(b6,c6,3)]) (β2:=_) (fun _=>rfl) (fun hb=>?_)
 have h6:RowAt (u14.union (A0e ([(b7,c7,3),(b6,c6,3)]))) (some ⟨b6,0,none⟩) ([(0:Int),1].map (.int .i64)):=RowAt.own hb (show Subm [(b6,c6,3)] [(b7,c7,3),(b6,c6,3)]from cntL) hL6
 have h7:RowAt (u14.union (A0e ([(b7,c7,3),(b6,c6,3)]))) (some ⟨b7,0,none⟩) ([(0:Int)].map (.int .i64)):=RowAt.own hb (show Subm [(b7,c7,3)] [(b7,c7,3),(b6,c6,3)]from cntL) hL7
 replace hle:=hle.trans (A0b u14 (A0e ([(b7,c7,3),(b6,c6,3)])))
 replace hw:=RowAt.le hw (A0b u14 (A0e ([(b7,c7,3),(b6,c6,3)])))
 replace hl:=RowAt.le hl (A0b u14 (A0e ([(b7,c7,3),(b6,c6,3)])))
 replace hp:=RowAt.le hp (A0b u14 (A0e ([(b7,c7,3),(b6,c6,3)])))
 replace hv3:=A0b u14 (A0e ([(b7,c7,3),(b6,c6,3)])) _ _ hv3
 replace hv5:=A0b u14 (A0e ([(b7,c7,3),(b6,c6,3)])) _ _ hv5
 replace hws:=hws.le (A0b u14 (A0e ([(b7,c7,3),(b6,c6,3)])))
 generalize u14.union (A0e ([(b7,c7,3),(b6,c6,3)]))=u15 at *
 clear hb
 clear hL6 hL7
 repeat (first|refine st ?_|refine qb fun bx=>?_)
 refine Q_op fun ho=>A0i [] _ ho bod56 Z Z Z Z Z A1n (wrong_m (hws.le (A0b _ _)) (RowAt.le h6 (A0b _ _)) (RowAt.le h7 (A0b _ _))) (fun x β' hR=>?_)
 clear ho
 obtain⟨ax,cx,rfl,hxS⟩:=hR
 clear hws hcap h6 h7
 refine A0w (β1:=β') (β2:=_) (fun _=>rfl) (fun hb=>?_)
 have hx:RowAt (u15.union (A0e (β'))) ax ([0,2].map natV):=A2m hb hxS
 replace hle:=hle.trans (A0b u15 (A0e (β')))
 replace hw:=RowAt.le hw (A0b u15 (A0e (β')))
 replace hl:=RowAt.le hl (A0b u15 (A0e (β')))
 replace hp:=RowAt.le hp (A0b u15 (A0e (β')))
 replace hv3:=A0b u15 (A0e (β')) _ _ hv3
 replace hv5:=A0b u15 (A0e (β')) _ _ hv5
 generalize u15.union (A0e (β'))=u16 at *
 clear hb
 clear hxS
 repeat (first|refine st ?_|refine qb fun bx=>?_)
 simp only [List.append]
 repeat (first|refine st ?_|refine qb fun bx=>?_)
 refine A2p tab Z Z Z hv5 (x:=A5u 0 2) (A2d tab (k:=2) (x:=[.int .i64 0,.int .i64 2]) Z Z Z ⟨Nat.le_refl _,Z⟩) ?_
 repeat (first|refine st ?_|refine qb fun bx=>?_)
 refine Q_op fun ho=>A_eqlR (a:=0) (b:=2) (c:=0) (e:=2) ho Z Z Z Z ?_
 clear ho
 rw [show decide ((0:Int)=0∧(2:Int)=2)=true from rfl]
 repeat (first|refine st ?_|refine qb fun bx=>?_)
 refine A2p tab Z Z Z hv3 (x:=wldV aw1 1 cw1 aw2 0 cw2) (A2d tab (k:=2) (x:=[.slice aw1 1 cw1,.slice aw2 0 cw2]) Z Z Z ⟨Nat.le_refl _,Z⟩) ?_
 repeat (first|refine st ?_|refine qb fun bx=>?_)
 refine Q_op fun ho=>A3x tab ho Z Z Z Z Z Z Z Z Z (fun b8 c8 hL=>?_)
 clear ho
 refine A0w (β1:=[(b8,c8,3)]) (β2:=_) (fun _=>rfl) (fun hb=>?_)
 have hL0:RowAt (u16.union (A0e ([(b8,c8,3)]))) (some ⟨b8,0,none⟩) ([2].map natV):=RowAt.own hb (show Subm [(b8,c8,3)] [(b8,c8,3)]from cntL) hL
 replace hle:=hle.trans (A0b u16 (A0e ([(b8,c8,3)])))
 replace hw:=RowAt.le hw (A0b u16 (A0e ([(b8,c8,3)])))
 replace hl:=RowAt.le hl (A0b u16 (A0e ([(b8,c8,3)])))
 replace hp:=RowAt.le hp (A0b u16 (A0e ([(b8,c8,3)])))
 replace hx:=RowAt.le hx (A0b u16 (A0e ([(b8,c8,3)])))
 replace hv3:=A0b u16 (A0e ([(b8,c8,3)])) _ _ hv3
 replace hv5:=A0b u16 (A0e ([(b8,c8,3)])) _ _ hv5
 generalize u16.union (A0e ([(b8,c8,3)]))=u17 at *
 clear hb
 clear hL
 repeat (first|refine st ?_|refine qb fun bx=>?_)
 refine Q_op fun ho=>A0s ho bod31 Z Z Z Z Z (sameWorlds_x (l1:=[2]) (l2:=[]) (m1:=[2]) (m2:=[]) hw (.inl Z) hL0 (.inl Z) dM dM dM dM) ?_
 clear ho hL0
 rw [show(decide (([2]:List Nat)=[2])&&decide (([]:List Nat)=[]))=true from rfl]
 repeat (first|refine st ?_|refine qb fun bx=>?_)
 refine Q_op fun ho=>A3x tab ho Z Z Z Z Z Z Z Z Z (fun b9 c9 hL=>?_)
 clear ho
 refine A0w (β1:=[(b9,c9,3)]) (β2:=_) (fun _=>rfl) (fun hb=>?_)
 have hL0:RowAt (u17.union (A0e ([(b9,c9,3)]))) (some ⟨b9,0,none⟩) ([0].map natV):=RowAt.own hb (show Subm [(b9,c9,3)] [(b9,c9,3)]from cntL) hL
 replace hle:=hle.trans (A0b u17 (A0e ([(b9,c9,3)])))
 replace hw:=RowAt.le hw (A0b u17 (A0e ([(b9,c9,3)])))
 replace hl:=RowAt.le hl (A0b u17 (A0e ([(b9,c9,3)])))
 replace hp:=RowAt.le hp (A0b u17 (A0e ([(b9,c9,3)])))
 replace hx:=RowAt.le hx (A0b u17 (A0e ([(b9,c9,3)])))
 replace hv3:=A0b u17 (A0e ([(b9,c9,3)])) _ _ hv3
 replace hv5:=A0b u17 (A0e ([(b9,c9,3)])) _ _ hv5
 generalize u17.union (A0e ([(b9,c9,3)]))=u18 at *
 clear hb
 clear hL
 repeat (first|refine st ?_|refine qb fun bx=>?_)
 refine Q_op fun ho=>A0s ho bod35 Z Z Z Z Z (A7c (l:=[0]) (m:=[0]) hl hL0 dM dM) ?_
 clear ho hL0
 rw [show decide (([0]:List Nat)=[0])=true from rfl]
 repeat (first|refine st ?_|refine qb fun bx=>?_)
 refine Q_op fun ho=>A3x tab ho Z Z Z Z Z Z Z Z Z (fun b10 c10 hL=>?_)
 clear ho
 refine A0w (β1:=[(b10,c10,3)]) (β2:=_) (fun _=>rfl) (fun hb=>?_)
 have hL0:RowAt (u18.union (A0e ([(b10,c10,3)]))) (some ⟨b10,0,none⟩) ([1].map natV):=RowAt.own hb (show Subm [(b10,c10,3)] [(b10,c10,3)]from cntL) hL
 replace hle:=hle.trans (A0b u18 (A0e ([(b10,c10,3)])))
 replace hw:=RowAt.le hw (A0b u18 (A0e ([(b10,c10,3)])))
 replace hl:=RowAt.le hl (A0b u18 (A0e ([(b10,c10,3)])))
 replace hp:=RowAt.le hp (A0b u18 (A0e ([(b10,c10,3)])))
 replace hx:=RowAt.le hx (A0b u18 (A0e ([(b10,c10,3)])))
 replace hv3:=A0b u18 (A0e ([(b10,c10,3)])) _ _ hv3
 replace hv5:=A0b u18 (A0e ([(b10,c10,3)])) _ _ hv5
 generalize u18.union (A0e ([(b10,c10,3)]))=u19 at *
 clear hb
 clear hL
 repeat (first|refine st ?_|refine qb fun bx=>?_)
 refine Q_op fun ho=>A0s ho bod35 Z Z Z Z Z (A7c (l:=[1]) (m:=[1]) hp hL0 dM dM) ?_
 clear ho hL0
 rw [show decide (([1]:List Nat)=[1])=true from rfl]
 repeat (first|refine st ?_|refine qb fun bx=>?_)
 refine Q_op fun ho=>A3x tab ho Z Z Z Z Z Z Z Z Z (fun b11 c11 hL=>?_)
 clear ho
 refine A0w (β1:=[(b11,c11,3)]) (β2:=_) (fun _=>rfl) (fun hb=>?_)
 have hL0:RowAt (u19.union (A0e ([(b11,c11,3)]))) (some ⟨b11,0,none⟩) ([0,2].map natV):=RowAt.own hb (show Subm [(b11,c11,3)] [(b11,c11,3)]from cntL) hL
 replace hle:=hle.trans (A0b u19 (A0e ([(b11,c11,3)])))
 replace hw:=RowAt.le hw (A0b u19 (A0e ([(b11,c11,3)])))
 replace hl:=RowAt.le hl (A0b u19 (A0e ([(b11,c11,3)])))
 replace hp:=RowAt.le hp (A0b u19 (A0e ([(b11,c11,3)])))
 replace hx:=RowAt.le hx (A0b u19 (A0e ([(b11,c11,3)])))
 replace hv3:=A0b u19 (A0e ([(b11,c11,3)])) _ _ hv3
 replace hv5:=A0b u19 (A0e ([(b11,c11,3)])) _ _ hv5
 generalize u19.union (A0e ([(b11,c11,3)]))=u20 at *
 clear hb
 clear hL
 repeat (first|refine st ?_|refine qb fun bx=>?_)
 refine Q_op fun ho=>A0s ho bod35 Z Z Z Z Z (A7c (l:=[0,2]) (m:=[0,2]) hx hL0 dM dM) ?_
 clear ho hL0
 rw [show decide (([0,2]:List Nat)=[0,2])=true from rfl]
 repeat (first|refine st ?_|refine qb fun bx=>?_)
 refine A0l tab [] (by exact .tmp rfl .nil) (Back.more hle) ?_
 exact⟨Z,Z⟩
end
end Go.Proofs.YtiolobmgibdfmaaGreat
end
