/- 'palfreylaw06.VouchKnown' returns true whatever the start and whatever its goroutines do, as its row says it. No condition. -/
import Derived.ChangeShapes
import Derived.Conc.HoldsTime
import Derived.RowKit
import Derived.Test.YtiolobmgibdfmaaGreatRows
import Derived.Test.YtiolobmgibdfmaaGreatPbd
import Derived.Test.YtiolobmgibdfmaaGreatPbe
set_option linter.unusedVariables false
set_option linter.unusedSimpArgs false
section
namespace Go.Proofs.YtiolobmgibdfmaaGreat
open Go Go.ChangeShapes
set_option maxRecDepth 100000 in
theorem j20:joinedFacts Tryz.prog 20 Tryz.f20 Rows.vouchKnownSpec Rows.vouchKnownRow=true:=A4m (A4m (A4m (A4m (A4m (A4m (A4m (A4m (A4m (A4m (A4m (A4m (A4m (A4m (A4m (A4m (A4m (A4m (A4m (A4m (A4m (A4m (A4m (A4m (A4m (A4m (A4m (A4m (A4m (A4m (A4m (j20_0) j20_1) j20_2) j20_3) j20_4) j20_5) j20_6) j20_7) j20_8) j20_9) j20_10) j20_11) j20_12) j20_13) j20_14) j20_15) j20_16) j20_17) j20_18) j20_19) j20_20) j20_21) j20_22) j20_23) j20_24) j20_25) j20_26) j20_27) j20_28) j20_29) j20_30) j20_31
end Go.Proofs.YtiolobmgibdfmaaGreat
end
section
namespace Go.Proofs.YtiolobmgibdfmaaGreat
open Go Go.Pal Go.Conc Go.ConcM Go.RowKit Go.ChangeShapes Go.WideShapes Go.ChangeAt
theorem own_knob:ownKnob Tryz.prog.godebug=none:=by kernel_rfl
theorem view_none{W:World}:View.Agree (fun _=>none) W:=fun b p o h=>nomatch (show none=some (p,o)from h)
set_option maxRecDepth 100000 in
theorem known_lifted(os:Os)(started:os.Started)(H:Type)(enc:TypeId×Value→H)(F:Stop.Interp) :
    ReturnsInLeavingWide Rows.vouchKnownRow.assume Tryz.checked os 20 .any (Rows.vouchKnownSpec.pre6 enc Tryz.prog Tryz.f20 Rows.vouchKnownRow.domain false) ((OpenSpec.ofChange Rows.vouchKnownSpec).postWith enc Tryz.prog Tryz.f20 F (outsideKept [.timePasses]) false true false):=by
  refine returnsInLeavingWide_of_change_time (C:=Tryz.checked) own_knob started Tryz.func20
    (ChangeSpec.witness6c (enc:=enc) (C:=Tryz.checked) ⟨#[],#[],[]⟩ 8 (by kernel_rfl) (by kernel_rfl) (by kernel_rfl) (by kernel_rfl)) ?_
  intro W base args ds gs before hval0 hW _ _ hass
  have hW':=hW
  obtain⟨p,q,hA0,hV,rfl,_,_⟩:=hW
  have hA:DataW.TrodAll enc Tryz.prog W 0 (fun _=>true) true Tryz.f20.params.toList args.toList ds p:=hA0
  rw [show Tryz.f20.params.toList=[]from rfl]at hA
  obtain⟨rfl,rfl,rfl⟩:=trodAll_none hA
  obtain⟨rfl,rfl⟩:=trodVars_none hV
  clear hA0 hval0
  simp only [List.append_nil]at hW'
  have hcalm:Calm W.tape:=hass.2.1 rfl
  obtain⟨M,last,o,w',t',r1,r2,r3,v,e,hp,g1,g2,g3,g4⟩:=law_run (P:=Tryz.prog) (W:=W) (v:=fun _=>none) (args:=[]) Tryz.func20 rfl (by kernel_rfl) view_none (fun b h=>by obtain⟨o,h⟩:=h;cases h) hcalm known_run
  refine⟨M,last,o,w',t',r1,r2,r3,v,e,⟨?_,hp.2.2⟩,g1,g2,g3,g4⟩
  obtain⟨rfl,hbel,hos⟩:=hp
  exact⟨_,_,_,[],[],[],hW',trodAll_mk1 (shut_bool Tryz.underlying4 true),trodAll_mk0,rfl,hbel.frame _,fun h=>by cases h⟩
theorem known_said:Rows.VouchKnownSaid:=
  OpenClaim.holds_of_wide_leaving_time 20 Tryz.f20 rfl rfl rfl rfl rfl rfl rfl ⟨rfl,rfl,rfl,rfl,rfl⟩ rfl rfl rfl rfl rfl (by kernel_rfl) Tryz.func20 j20
    (of_decide_eq_true (by kernel_rfl)) (by unfold Func.isWrapper;first|(rw [if_pos (by decide +kernel)];kernel_rfl)|(rw [if_neg (by decide +kernel)];exact⟨rfl,rfl⟩))
    (fun os started H enc _ F=>known_lifted os started H enc F)
end Go.Proofs.YtiolobmgibdfmaaGreat
end
#print axioms Go.Proofs.YtiolobmgibdfmaaGreat.known_said
