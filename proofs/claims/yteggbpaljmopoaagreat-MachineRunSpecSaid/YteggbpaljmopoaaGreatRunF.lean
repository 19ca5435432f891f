/- Closed facts of the row of MachineRunSpec. Conditions: those that each theorem states. -/
import Derived.Test.YteggbpaljmopoaaGreatFacts
set_option linter.unusedVariables false
set_option linter.unusedSimpArgs false
/- Closed facts of the row of MachineRunSpec. PRINTED BY wip/gen_facts.py -/
namespace Go.Proofs.YteggbpaljmopoaaGreat
open Go.RowKit Go.ChangeShapes Go.WideShapes Go.ChangeAt BF
namespace MachineRunSpecF
theorem f1 : (Rows.machineRunSpecRow.wf (OpenSpec.ofChange Rows.machineRunSpecSpec)) = true := by kernel_rfl
theorem f4 : (Tryz.f3.params.all (Tryz.prog.readableRec ·)) = true := by kernel_rfl
theorem f5 : (namedTie Tryz.prog Rows.machineRunSpecRow.named Rows.machineRunSpecSpec.vars) = true := by kernel_rfl
theorem f6 : ((Rows.machineRunSpecRow.stops == [])) = true := by kernel_rfl
theorem f8 : ((Rows.machineRunSpecRow.knobs == [])) = true := by kernel_rfl
theorem f10 : ((Rows.machineRunSpecRow.inPlace == Tryz.prog.inPlace 3)) = true := by kernel_rfl
theorem f11 : ((Rows.machineRunSpecRow.unfollowed == Tryz.prog.unfollowed 3)) = true := by kernel_rfl
theorem f12 : ((Rows.machineRunSpecRow.recurses == Tryz.prog.recurses 3)) = true := by kernel_rfl
theorem f13 : ((Rows.machineRunSpecRow.named == Tryz.prog.varsNamed 3)) = true := by kernel_rfl
theorem f14 : ((Rows.machineRunSpecRow.maps == (Tryz.f3.params.toList ++ Rows.machineRunSpecSpec.plain.varTypes Tryz.prog).any (Tryz.prog.mapsRec ·))) = true := by kernel_rfl
theorem f15 : ((Rows.machineRunSpecRow.ifaces == (Tryz.f3.params.toList ++ Rows.machineRunSpecSpec.plain.varTypes Tryz.prog).any (Tryz.prog.ifacesRec ·))) = true := by kernel_rfl
theorem f16 : ((Rows.machineRunSpecRow.mapsOut == Tryz.prog.mapsAmong Tryz.f3.resultTypes.toList)) = true := by kernel_rfl
theorem f17 : ((Rows.machineRunSpecRow.loops == (Tryz.f3.params.toList ++ Rows.machineRunSpecSpec.plain.varTypes Tryz.prog).any (Tryz.prog.loopsFrom ·))) = true := by kernel_rfl
theorem f18 : ((Rows.machineRunSpecRow.wideKeys == (Tryz.f3.params.toList ++ Rows.machineRunSpecSpec.plain.varTypes Tryz.prog ++ Tryz.f3.resultTypes.toList).any (Tryz.prog.wideKeysFrom ·))) = true := by kernel_rfl
theorem f19 : (Rows.machineRunSpecSpec.vars.all (Tryz.prog.varReadable ·)) = true := by kernel_rfl
theorem f20 : (Tryz.f3.resultTypes.all (fun t => Tryz.prog.readableRec t && decide (t < Tryz.prog.types.size))) = true := by kernel_rfl
theorem f21 : ((Rows.machineRunSpecRow.ifacesOut == Tryz.f3.resultTypes.toList.any (Tryz.prog.ifacesRec ·))) = true := by kernel_rfl
theorem f22 : ((Rows.machineRunSpecRow.loopsOut == Tryz.f3.resultTypes.toList.any (Tryz.prog.loopsFrom ·))) = true := by kernel_rfl
theorem f24 : (Rows.machineRunSpecRow.shortTexts.isNone) = true := by kernel_rfl
theorem f30 : ((Rows.machineRunSpecRow.pinned == Rows.machineRunSpecRow.pinnedBy)) = true := by kernel_rfl
theorem f31 : ((Rows.machineRunSpecRow.veiled == (Tryz.f3.params.toList ++ Rows.machineRunSpecSpec.plain.varTypes Tryz.prog ++ Tryz.f3.resultTypes.toList).any (Tryz.prog.veiledRec ·))) = true := by kernel_rfl
theorem f32 : (Rows.machineRunSpecRow.veiledFits Tryz.prog Tryz.f3.params.toList (Tryz.f3.params.toList ++ Rows.machineRunSpecSpec.plain.varTypes Tryz.prog ++ Tryz.f3.resultTypes.toList)) = true := by kernel_rfl
theorem params : (Tryz.f3.params.toList.all fun t => Tryz.prog.readableRec t && decide (t < Tryz.prog.types.size)) = true := by kernel_rfl
theorem named : Tryz.checked.prog.funcNamed Rows.machineRunSpecRow.func = some 3 := by kernel_rfl
end MachineRunSpecF
end Go.Proofs.YteggbpaljmopoaaGreat
