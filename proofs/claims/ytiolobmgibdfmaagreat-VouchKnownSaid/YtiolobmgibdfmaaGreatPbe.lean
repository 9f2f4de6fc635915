/- Part 31 of the way to: 'palfreylaw06.VouchKnown' returns true whatever the start and whatever its goroutines do, as its row says it. No condition. -/
import Derived.JoinedOf
import Derived.KernelRfl
import Derived.Test.YtiolobmgibdfmaaGreatRows
set_option linter.unusedVariables false
set_option linter.unusedSimpArgs false
section
namespace Go.Proofs.YtiolobmgibdfmaaGreat
open Go Go.ChangeShapes
theorem A4m{a b:Bool}(ha:a=true)(hb:b=true):(a&&b)=true:=by rw [ha,hb];rfl
theorem j20_0:(Rows.vouchKnownRow.wf (OpenSpec.ofChange Rows.vouchKnownSpec))=true:=by kernel_rfl
theorem j20_1:(laidOutB Tryz.prog)=true:=by kernel_rfl
theorem j20_2:(mapsRowed Tryz.prog)=true:=by kernel_rfl
theorem j20_3:(Tryz.f20.params.all (Tryz.prog.readableRec ·))=true:=by kernel_rfl
theorem j20_4:(namedTie Tryz.prog Rows.vouchKnownRow.named Rows.vouchKnownSpec.vars)=true:=by kernel_rfl
theorem j20_5:((Rows.vouchKnownRow.stops == []))=true:=by kernel_rfl
theorem j20_6:((Tryz.prog.stops == []))=true:=by kernel_rfl
theorem j20_7:((Rows.vouchKnownRow.knobs == []))=true:=by kernel_rfl
theorem j20_8:((Tryz.prog.stopKnobs == []))=true:=by kernel_rfl
theorem j20_9:((Rows.vouchKnownRow.inPlace==Tryz.prog.inPlace 20))=true:=by kernel_rfl
theorem j20_10:((Rows.vouchKnownRow.unfollowed==Tryz.prog.unfollowed 20))=true:=by kernel_rfl
theorem j20_11:((Rows.vouchKnownRow.recurses==Tryz.prog.recurses 20))=true:=by kernel_rfl
theorem j20_12:((Rows.vouchKnownRow.named==Tryz.prog.varsNamed 20))=true:=by kernel_rfl
theorem j20_13:((Rows.vouchKnownRow.maps==(Tryz.f20.params.toList++Rows.vouchKnownSpec.plain.varTypes Tryz.prog).any (Tryz.prog.mapsRec ·)))=true:=by kernel_rfl
theorem j20_14:((Rows.vouchKnownRow.ifaces==(Tryz.f20.params.toList++Rows.vouchKnownSpec.plain.varTypes Tryz.prog).any (Tryz.prog.ifacesRec ·)))=true:=by kernel_rfl
theorem j20_15:((Rows.vouchKnownRow.mapsOut==Tryz.prog.mapsAmong Tryz.f20.resultTypes.toList))=true:=by kernel_rfl
theorem j20_16:((Rows.vouchKnownRow.loops==(Tryz.f20.params.toList++Rows.vouchKnownSpec.plain.varTypes Tryz.prog).any (Tryz.prog.loopsFrom ·)))=true:=by kernel_rfl
theorem j20_17:((Rows.vouchKnownRow.wideKeys==(Tryz.f20.params.toList++Rows.vouchKnownSpec.plain.varTypes Tryz.prog++Tryz.f20.resultTypes.toList).any (Tryz.prog.wideKeysFrom ·)))=true:=by kernel_rfl
theorem j20_18:(Rows.vouchKnownSpec.vars.all (Tryz.prog.varReadable ·))=true:=by kernel_rfl
theorem j20_19:(Tryz.f20.resultTypes.all (fun t=>Tryz.prog.readableRec t&&decide (t<Tryz.prog.types.size)))=true:=by kernel_rfl
theorem j20_20:((Rows.vouchKnownRow.ifacesOut==Tryz.f20.resultTypes.toList.any (Tryz.prog.ifacesRec ·)))=true:=by kernel_rfl
theorem j20_21:((Rows.vouchKnownRow.loopsOut==Tryz.f20.resultTypes.toList.any (Tryz.prog.loopsFrom ·)))=true:=by kernel_rfl
theorem j20_22:((Rows.vouchKnownRow.plainKeys==Tryz.prog.plainKeys))=true:=by kernel_rfl
theorem j20_23:(Rows.vouchKnownRow.shortTexts.isNone)=true:=by kernel_rfl
theorem j20_24:(Tryz.prog.stopsHeard)=true:=by kernel_rfl
theorem j20_25:(Tryz.prog.mayEnter)=true:=by kernel_rfl
theorem j20_26:((Rows.vouchKnownRow.lifted==Tryz.prog.liftsFinal))=true:=by kernel_rfl
theorem j20_27:((Tryz.prog.make==some Rows.vouchKnownRow.make))=true:=by kernel_rfl
theorem j20_28:((Rows.vouchKnownRow.kinds==(if Rows.vouchKnownRow.domain.isEmpty then []else Tryz.f20.params.toList.map fun t=>match Tryz.prog.underlying t with|some (.int k)=>some k|_=>none)))=true:=by kernel_rfl
theorem j20_29:((Rows.vouchKnownRow.pinned==Rows.vouchKnownRow.pinnedBy))=true:=by kernel_rfl
theorem j20_30:((Rows.vouchKnownRow.veiled==(Tryz.f20.params.toList++Rows.vouchKnownSpec.plain.varTypes Tryz.prog++Tryz.f20.resultTypes.toList).any (Tryz.prog.veiledRec ·)))=true:=by kernel_rfl
theorem j20_31:(Rows.vouchKnownRow.veiledFits Tryz.prog Tryz.f20.params.toList (Tryz.f20.params.toList++Rows.vouchKnownSpec.plain.varTypes Tryz.prog++Tryz.f20.resultTypes.toList))=true:=by kernel_rfl
end Go.Proofs.YtiolobmgibdfmaaGreat
end
