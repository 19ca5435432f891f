/- Closed facts of the row of MachineDay. Conditions: those that each theorem states. -/
import Derived.Test.YtekjphkabfiheaaGreatFacts
set_option linter.unusedVariables false
set_option linter.unusedSimpArgs false
/- Closed facts of the row of MachineDay. PRINTED BY wip/gen_facts.py -/
namespace Go.Proofs.YtekjphkabfiheaaGreat
open Go.RowKit Go.ChangeShapes Go.WideShapes Go.ChangeAt BF
namespace MachineDayF
theorem f1 : (Rows.machineDayRow.wf (OpenSpec.ofChange Rows.machineDaySpec)) = true := by kernel_rfl
theorem f4 : (Tryz.f12.params.all (Tryz.prog.readableRec ·)) = true := by kernel_rfl
theorem f5 : (namedTie Tryz.prog Rows.machineDayRow.named Rows.machineDaySpec.vars) = true := by kernel_rfl
theorem f6 : ((Rows.machineDayRow.stops == [])) = true := by kernel_rfl
theorem f8 : ((Rows.machineDayRow.knobs == [])) = true := by kernel_rfl
theorem f10 : ((Rows.machineDayRow.inPlace == Tryz.prog.inPlace 12)) = true := by kernel_rfl
theorem f11 : ((Rows.machineDayRow.unfollowed == Tryz.prog.unfollowed 12)) = true := by kernel_rfl
theorem f12 : ((Rows.machineDayRow.recurses == Tryz.prog.recurses 12)) = true := by kernel_rfl
theorem f13 : ((Rows.machineDayRow.named == Tryz.prog.varsNamed 12)) = true := by kernel_rfl
theorem f14 : ((Rows.machineDayRow.maps == (Tryz.f12.params.toList ++ Rows.machineDaySpec.plain.varTypes Tryz.prog).any (Tryz.prog.mapsRec ·))) = true := by kernel_rfl
theorem f15 : ((Rows.machineDayRow.ifaces == (Tryz.f12.params.toList ++ Rows.machineDaySpec.plain.varTypes Tryz.prog).any (Tryz.prog.ifacesRec ·))) = true := by kernel_rfl
theorem f16 : ((Rows.machineDayRow.mapsOut == Tryz.prog.mapsAmong Tryz.f12.resultTypes.toList)) = true := by kernel_rfl
theorem f17 : ((Rows.machineDayRow.loops == (Tryz.f12.params.toList ++ Rows.machineDaySpec.plain.varTypes Tryz.prog).any (Tryz.prog.loopsFrom ·))) = true := by kernel_rfl
theorem f18 : ((Rows.machineDayRow.wideKeys == (Tryz.f12.params.toList ++ Rows.machineDaySpec.plain.varTypes Tryz.prog ++ Tryz.f12.resultTypes.toList).any (Tryz.prog.wideKeysFrom ·))) = true := by kernel_rfl
theorem f19 : (Rows.machineDaySpec.vars.all (Tryz.prog.varReadable ·)) = true := by kernel_rfl
theorem f20 : (Tryz.f12.resultTypes.all (fun t => Tryz.prog.readableRec t && decide (t < Tryz.prog.types.size))) = true := by kernel_rfl
theorem f21 : ((Rows.machineDayRow.ifacesOut == Tryz.f12.resultTypes.toList.any (Tryz.prog.ifacesRec ·))) = true := by kernel_rfl
theorem f22 : ((Rows.machineDayRow.loopsOut == Tryz.f12.resultTypes.toList.any (Tryz.prog.loopsFrom ·))) = true := by kernel_rfl
theorem f24 : (Rows.machineDayRow.shortTexts.isNone) = true := by kernel_rfl
theorem f30 : ((Rows.machineDayRow.pinned == Rows.machineDayRow.pinnedBy)) = true := by kernel_rfl
theorem f31 : ((Rows.machineDayRow.veiled == (Tryz.f12.params.toList ++ Rows.machineDaySpec.plain.varTypes Tryz.prog ++ Tryz.f12.resultTypes.toList).any (Tryz.prog.veiledRec ·))) = true := by kernel_rfl
theorem f32 : (Rows.machineDayRow.veiledFits Tryz.prog Tryz.f12.params.toList (Tryz.f12.params.toList ++ Rows.machineDaySpec.plain.varTypes Tryz.prog ++ Tryz.f12.resultTypes.toList)) = true := by kernel_rfl
theorem params : (Tryz.f12.params.toList.all fun t => Tryz.prog.readableRec t && decide (t < Tryz.prog.types.size)) = true := by kernel_rfl
theorem named : Tryz.checked.prog.funcNamed Rows.machineDayRow.func = some 12 := by kernel_rfl
end MachineDayF
end Go.Proofs.YtekjphkabfiheaaGreat
