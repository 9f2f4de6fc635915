/- the laws of the toll clerks -/
import Derived.Conc.Holds
import Derived.Conc.LeavingOf
import Derived.Handed
import Derived.JoinedOf
import Derived.OpenShut
import Derived.ProofKit
import Derived.WalkKit
import Derived.Test.YtclejblcnfaeaaaGreatPbo
import Derived.Test.YtclejblcnfaeaaaGreatPbp
set_option linter.all false
section
namespace Go.Proofs.YtclejblcnfaeaaaGreat
open Go Go.ChangeShapes
theorem A4e{a b:Bool}(ha:a=true)(hb:b=true):(a&&b)=true:=by rw [ha,hb];rfl
theorem j6_0:(Rows.tollItselfRow.wf (OpenSpec.ofChange Rows.tollItselfSpec))=true:=by kernel_rfl
theorem j6_1:(laidOutB Tryz.prog)=true:=by kernel_rfl
theorem j6_2:(mapsRowed Tryz.prog)=true:=by kernel_rfl
theorem j6_3:(Tryz.f6.params.all (Tryz.prog.readableRec ·))=true:=by kernel_rfl
theorem j6_4:(namedTie Tryz.prog Rows.tollItselfRow.named Rows.tollItselfSpec.vars)=true:=by kernel_rfl
theorem j6_5:((Rows.tollItselfRow.stops == []))=true:=by kernel_rfl
theorem j6_6:((Tryz.prog.stops == []))=true:=by kernel_rfl
theorem j6_7:((Rows.tollItselfRow.knobs == []))=true:=by kernel_rfl
theorem j6_8:((Tryz.prog.stopKnobs == []))=true:=by kernel_rfl
theorem j6_9:((Rows.tollItselfRow.inPlace==Tryz.prog.inPlace 6))=true:=by kernel_rfl
theorem j6_10:((Rows.tollItselfRow.unfollowed==Tryz.prog.unfollowed 6))=true:=by kernel_rfl
theorem j6_11:((Rows.tollItselfRow.recurses==Tryz.prog.recurses 6))=true:=by kernel_rfl
theorem j6_12:((Rows.tollItselfRow.named==Tryz.prog.varsNamed 6))=true:=by kernel_rfl
theorem j6_13:((Rows.tollItselfRow.maps==(Tryz.f6.params.toList++Rows.tollItselfSpec.plain.varTypes Tryz.prog).any (Tryz.prog.mapsRec ·)))=true:=by kernel_rfl
theorem j6_14:((Rows.tollItselfRow.ifaces==(Tryz.f6.params.toList++Rows.tollItselfSpec.plain.varTypes Tryz.prog).any (Tryz.prog.ifacesRec ·)))=true:=by kernel_rfl
theorem j6_15:((Rows.tollItselfRow.mapsOut==Tryz.prog.mapsAmong Tryz.f6.resultTypes.toList))=true:=by kernel_rfl
theorem j6_16:((Rows.tollItselfRow.loops==(Tryz.f6.params.toList++Rows.tollItselfSpec.plain.varTypes Tryz.prog).any (Tryz.prog.loopsFrom ·)))=true:=by kernel_rfl
theorem j6_17:((Rows.tollItselfRow.wideKeys==(Tryz.f6.params.toList++Rows.tollItselfSpec.plain.varTypes Tryz.prog++Tryz.f6.resultTypes.toList).any (Tryz.prog.wideKeysFrom ·)))=true:=by kernel_rfl
theorem j6_18:(Rows.tollItselfSpec.vars.all (Tryz.prog.varReadable ·))=true:=by kernel_rfl
theorem j6_19:(Tryz.f6.resultTypes.all (fun t=>Tryz.prog.readableRec t&&decide (t<Tryz.prog.types.size)))=true:=by kernel_rfl
theorem j6_20:((Rows.tollItselfRow.ifacesOut==Tryz.f6.resultTypes.toList.any (Tryz.prog.ifacesRec ·)))=true:=by kernel_rfl
theorem j6_21:((Rows.tollItselfRow.loopsOut==Tryz.f6.resultTypes.toList.any (Tryz.prog.loopsFrom ·)))=true:=by kernel_rfl
theorem j6_22:((Rows.tollItselfRow.plainKeys==Tryz.prog.plainKeys))=true:=by kernel_rfl
theorem j6_23:(Rows.tollItselfRow.shortTexts.isNone)=true:=by kernel_rfl
theorem j6_24:(Tryz.prog.stopsHeard)=true:=by kernel_rfl
theorem j6_25:(Tryz.prog.mayEnter)=true:=by kernel_rfl
theorem j6_26:((Rows.tollItselfRow.lifted==Tryz.prog.liftsFinal))=true:=by kernel_rfl
theorem j6_27:((Tryz.prog.make==some Rows.tollItselfRow.make))=true:=by kernel_rfl
theorem j6_28:((Rows.tollItselfRow.kinds==(if Rows.tollItselfRow.domain.isEmpty then []else Tryz.f6.params.toList.map fun t=>match Tryz.prog.underlying t with|some (.int k)=>some k|_=>none)))=true:=by kernel_rfl
theorem j6_29:((Rows.tollItselfRow.pinned==Rows.tollItselfRow.pinnedBy))=true:=by kernel_rfl
theorem j6_30:((Rows.tollItselfRow.veiled==(Tryz.f6.params.toList++Rows.tollItselfSpec.plain.varTypes Tryz.prog++Tryz.f6.resultTypes.toList).any (Tryz.prog.veiledRec ·)))=true:=by kernel_rfl
theorem j6_31:(Rows.tollItselfRow.veiledFits Tryz.prog Tryz.f6.params.toList (Tryz.f6.params.toList++Rows.tollItselfSpec.plain.varTypes Tryz.prog++Tryz.f6.resultTypes.toList))=true:=by kernel_rfl
set_option maxRecDepth 100000 in
theorem j6:joinedFacts Tryz.prog 6 Tryz.f6 Rows.tollItselfSpec Rows.tollItselfRow=true:=A4e (A4e (A4e (A4e (A4e (A4e (A4e (A4e (A4e (A4e (A4e (A4e (A4e (A4e (A4e (A4e (A4e (A4e (A4e (A4e (A4e (A4e (A4e (A4e (A4e (A4e (A4e (A4e (A4e (A4e (A4e (j6_0) j6_1) j6_2) j6_3) j6_4) j6_5) j6_6) j6_7) j6_8) j6_9) j6_10) j6_11) j6_12) j6_13) j6_14) j6_15) j6_16) j6_17) j6_18) j6_19) j6_20) j6_21) j6_22) j6_23) j6_24) j6_25) j6_26) j6_27) j6_28) j6_29) j6_30) j6_31
end Go.Proofs.YtclejblcnfaeaaaGreat
end
section
namespace Go.Proofs.YtclejblcnfaeaaaGreat
open Go Go.Pal Go.Conc Go.ConcM Go.RowKit Go.ChangeShapes Go.WideShapes Go.ChangeAt
theorem own_knob:ownKnob Tryz.prog.godebug=none:=by kernel_rfl
set_option maxRecDepth 100000 in
theorem itself_lifted(os:Os)(started:os.Started)(H:Type)(enc:TypeId×Value→H) :
  ReturnsInLeavingWide {} Tryz.checked os 6 .any (Rows.tollItselfSpec.pre6 enc Tryz.prog Tryz.f6 Rows.tollItselfRow.domain false) (Rows.tollItselfSpec.post enc Tryz.prog Tryz.f6 false true false false):=by
 refine returnsInLeavingWide_of_change_sized (C:=Tryz.checked) own_knob started Tryz.func6
  (ChangeSpec.witness6 (enc:=enc) (C:=Tryz.checked) false ⟨#[],#[.slice none 0 0],[]⟩ 8 kR kR kR kR) ?_
 intro W base args ds gs before hval0 hW _ _ _
 have hval:∀(j:Nat) t v,Tryz.f6.params[j]?=some t→args[j]?=some v→Value.okWide Tryz.prog W .any base t v:=hval0
 have hW':=hW
 obtain⟨p,q,hA0,hV,rfl,_,_⟩:=hW
 have hA:DataW.TrodAll enc Tryz.prog W 0 (fun _=>true) true Tryz.f6.params.toList args.toList ds p:=hA0
 rw [Tryz.params6]at hA hval
 obtain⟨v0,d0,rfl,rfl,h0⟩:=trodAll_one hA
 obtain⟨rfl,rfl⟩:=trodVars_none hV
 clear hA0 hval0
 simp only [List.append_nil]at hW'
 have hlt:∀x∈p,x.block<W.heap.size:=fun x hx=>by simpa using hW'.lt x hx
 obtain⟨a0,cap,ns,v,rfl,hag,hro,hns,hargs⟩:=open_nums (hval 0 22 v0 rfl rfl) h0 hlt
 obtain⟨M,last,o,w',t',r1,r2,r3,r4⟩:=law_run (P:=Tryz.prog) (W:=W) (v:=v) (args:=[.slice a0 ns.length cap]) Tryz.func6 rfl kR hag hro (itself_run hns)
 refine⟨M,last,o,w',t',r1,r2,r3,r4.mono fun x hp=>?_⟩
 obtain⟨rfl,hbel0,hos⟩:=hp
 have hbel:Below W.heap.size W w':=by
  have e:w'.os=W.os:=hos
  rw [←e]at hbel0
  exact hbel0
 exact⟨_,_,_,[],p,[],hW',trodAll_mk1 (shut_bool Tryz.underlying4 true),trodAll_mk1 (hargs _ hbel),Y,hbel.frame _,fun h=>by cases h⟩
theorem itself_said:Rows.TollItselfSaid:=
 OpenClaim.holds_of_wide_leaving 6 Tryz.f6 rfl rfl rfl rfl rfl rfl rfl ⟨rfl,rfl,rfl,rfl,rfl⟩ rfl rfl rfl rfl rfl kR Tryz.func6 j6
  (of_decide_eq_true kR) (by unfold Func.isWrapper;first|(rw [if_pos (by decide +kernel)];kernel_rfl)|(rw [if_neg (by decide +kernel)];exact⟨Y,Y⟩))
  (fun os started H enc _=>itself_lifted os started H enc)
end Go.Proofs.YtclejblcnfaeaaaGreat
end
#print axioms Go.Proofs.YtclejblcnfaeaaaGreat.itself_said
