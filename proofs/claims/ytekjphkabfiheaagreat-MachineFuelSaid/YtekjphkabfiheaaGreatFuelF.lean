/- Closed facts of the row of MachineFuel. Conditions: those that each theorem states. -/
import Derived.Test.YtekjphkabfiheaaGreatFacts
set_option linter.unusedVariables false
set_option linter.unusedSimpArgs false
/- Closed facts of the row of MachineFuel. PRINTED BY wip/gen_facts.py -/
namespace Go.Proofs.YtekjphkabfiheaaGreat
open Go.RowKit Go.ChangeShapes Go.WideShapes Go.ChangeAt BF
namespace MachineFuelF
theorem f1 : (Rows.machineFuelRow.wf (OpenSpec.ofChange Rows.machineFuelSpec)) = true := by kernel_rfl
theorem f4 : (Tryz.f9.params.all (Tryz.prog.readableRec ·)) = true := by kernel_rfl
theorem f5 : (namedTie Tryz.prog Rows.machineFuelRow.named Rows.machineFuelSpec.vars) = true := by kernel_rfl
theorem f6 : ((Rows.machineFuelRow.stops == [])) = true := by kernel_rfl
theorem f8 : ((Rows.machineFuelRow.knobs == [])) = true := by kernel_rfl
theorem f10 : ((Rows.machineFuelRow.inPlace == Tryz.prog.inPlace 9)) = true := by kernel_rfl
theorem f11 : ((Rows.machineFuelRow.unfollowed == Tryz.prog.unfollowed 9)) = true := by kernel_rfl
theorem f12 : ((Rows.machineFuelRow.recurses == Tryz.prog.recurses 9)) = true := by kernel_rfl
theorem f13 : ((Rows.machineFuelRow.named == Tryz.prog.varsNamed 9)) = true := by kernel_rfl
theorem f14 : ((Rows.machineFuelRow.maps == (Tryz.f9.params.toList ++ Rows.machineFuelSpec.plain.varTypes Tryz.prog).any (Tryz.prog.mapsRec ·))) = true := by kernel_rfl
theorem f15 : ((Rows.machineFuelRow.ifaces == (Tryz.f9.params.toList ++ Rows.machineFuelSpec.plain.varTypes Tryz.prog).any (Tryz.prog.ifacesRec ·))) = true := by kernel_rfl
theorem f16 : ((Rows.machineFuelRow.mapsOut == Tryz.prog.mapsAmong Tryz.f9.resultTypes.toList)) = true := by kernel_rfl
theorem f17 : ((Rows.machineFuelRow.loops == (Tryz.f9.params.toList ++ Rows.machineFuelSpec.plain.varTypes Tryz.prog).any (Tryz.prog.loopsFrom ·))) = true := by kernel_rfl
theorem f18 : ((Rows.machineFuelRow.wideKeys == (Tryz.f9.params.toList ++ Rows.machineFuelSpec.plain.varTypes Tryz.prog ++ Tryz.f9.resultTypes.toList).any (Tryz.prog.wideKeysFrom ·))) = true := by kernel_rfl
theorem f19 : (Rows.machineFuelSpec.vars.all (Tryz.prog.varReadable ·)) = true := by kernel_rfl
theorem f20 : (Tryz.f9.resultTypes.all (fun t => Tryz.prog.readableRec t && decide (t < Tryz.prog.types.size))) = true := by kernel_rfl
theorem f21 : ((Rows.machineFuelRow.ifacesOut == Tryz.f9.resultTypes.toList.any (Tryz.prog.ifacesRec ·))) = true := by kernel_rfl
theorem f22 : ((Rows.machineFuelRow.loopsOut == Tryz.f9.resultTypes.toList.any (Tryz.prog.loopsFrom ·))) = true := by kernel_rfl
theorem f24 : (Rows.machineFuelRow.shortTexts.isNone) = true := by kernel_rfl
theorem f30 : ((Rows.machineFuelRow.pinned == Rows.machineFuelRow.pinnedBy)) = true := by kernel_rfl
theorem f31 : ((Rows.machineFuelRow.veiled == (Tryz.f9.params.toList ++ Rows.machineFuelSpec.plain.varTypes Tryz.prog ++ Tryz.f9.resultTypes.toList).any (Tryz.prog.veiledRec ·))) = true := by kernel_rfl
theorem f32 : (Rows.machineFuelRow.veiledFits Tryz.prog Tryz.f9.params.toList (Tryz.f9.params.toList ++ Rows.machineFuelSpec.plain.varTypes Tryz.prog ++ Tryz.f9.resultTypes.toList)) = true := by kernel_rfl
theorem params : (Tryz.f9.params.toList.all fun t => Tryz.prog.readableRec t && decide (t < Tryz.prog.types.size)) = true := by kernel_rfl
theorem named : Tryz.checked.prog.funcNamed Rows.machineFuelRow.func = some 9 := by kernel_rfl
end MachineFuelF
end Go.Proofs.YtekjphkabfiheaaGreat
