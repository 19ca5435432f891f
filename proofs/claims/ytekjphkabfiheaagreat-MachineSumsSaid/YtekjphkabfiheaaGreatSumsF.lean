/- Closed facts of the row of MachineSums. Conditions: those that each theorem states. -/
import Derived.Test.YtekjphkabfiheaaGreatFacts
set_option linter.unusedVariables false
set_option linter.unusedSimpArgs false
/- Closed facts of the row of MachineSums. PRINTED BY wip/gen_facts.py -/
namespace Go.Proofs.YtekjphkabfiheaaGreat
open Go.RowKit Go.ChangeShapes Go.WideShapes Go.ChangeAt BF
namespace MachineSumsF
theorem f1 : (Rows.machineSumsRow.wf (OpenSpec.ofChange Rows.machineSumsSpec)) = true := by kernel_rfl
theorem f4 : (Tryz.f10.params.all (Tryz.prog.readableRec ·)) = true := by kernel_rfl
theorem f5 : (namedTie Tryz.prog Rows.machineSumsRow.named Rows.machineSumsSpec.vars) = true := by kernel_rfl
theorem f6 : ((Rows.machineSumsRow.stops == [])) = true := by kernel_rfl
theorem f8 : ((Rows.machineSumsRow.knobs == [])) = true := by kernel_rfl
theorem f10 : ((Rows.machineSumsRow.inPlace == Tryz.prog.inPlace 10)) = true := by kernel_rfl
theorem f11 : ((Rows.machineSumsRow.unfollowed == Tryz.prog.unfollowed 10)) = true := by kernel_rfl
theorem f12 : ((Rows.machineSumsRow.recurses == Tryz.prog.recurses 10)) = true := by kernel_rfl
theorem f13 : ((Rows.machineSumsRow.named == Tryz.prog.varsNamed 10)) = true := by kernel_rfl
theorem f14 : ((Rows.machineSumsRow.maps == (Tryz.f10.params.toList ++ Rows.machineSumsSpec.plain.varTypes Tryz.prog).any (Tryz.prog.mapsRec ·))) = true := by kernel_rfl
theorem f15 : ((Rows.machineSumsRow.ifaces == (Tryz.f10.params.toList ++ Rows.machineSumsSpec.plain.varTypes Tryz.prog).any (Tryz.prog.ifacesRec ·))) = true := by kernel_rfl
theorem f16 : ((Rows.machineSumsRow.mapsOut == Tryz.prog.mapsAmong Tryz.f10.resultTypes.toList)) = true := by kernel_rfl
theorem f17 : ((Rows.machineSumsRow.loops == (Tryz.f10.params.toList ++ Rows.machineSumsSpec.plain.varTypes Tryz.prog).any (Tryz.prog.loopsFrom ·))) = true := by kernel_rfl
theorem f18 : ((Rows.machineSumsRow.wideKeys == (Tryz.f10.params.toList ++ Rows.machineSumsSpec.plain.varTypes Tryz.prog ++ Tryz.f10.resultTypes.toList).any (Tryz.prog.wideKeysFrom ·))) = true := by kernel_rfl
theorem f19 : (Rows.machineSumsSpec.vars.all (Tryz.prog.varReadable ·)) = true := by kernel_rfl
theorem f20 : (Tryz.f10.resultTypes.all (fun t => Tryz.prog.readableRec t && decide (t < Tryz.prog.types.size))) = true := by kernel_rfl
theorem f21 : ((Rows.machineSumsRow.ifacesOut == Tryz.f10.resultTypes.toList.any (Tryz.prog.ifacesRec ·))) = true := by kernel_rfl
theorem f22 : ((Rows.machineSumsRow.loopsOut == Tryz.f10.resultTypes.toList.any (Tryz.prog.loopsFrom ·))) = true := by kernel_rfl
theorem f24 : (Rows.machineSumsRow.shortTexts.isNone) = true := by kernel_rfl
theorem f30 : ((Rows.machineSumsRow.pinned == Rows.machineSumsRow.pinnedBy)) = true := by kernel_rfl
theorem f31 : ((Rows.machineSumsRow.veiled == (Tryz.f10.params.toList ++ Rows.machineSumsSpec.plain.varTypes Tryz.prog ++ Tryz.f10.resultTypes.toList).any (Tryz.prog.veiledRec ·))) = true := by kernel_rfl
theorem f32 : (Rows.machineSumsRow.veiledFits Tryz.prog Tryz.f10.params.toList (Tryz.f10.params.toList ++ Rows.machineSumsSpec.plain.varTypes Tryz.prog ++ Tryz.f10.resultTypes.toList)) = true := by kernel_rfl
theorem params : (Tryz.f10.params.toList.all fun t => Tryz.prog.readableRec t && decide (t < Tryz.prog.types.size)) = true := by kernel_rfl
theorem named : Tryz.checked.prog.funcNamed Rows.machineSumsRow.func = some 10 := by kernel_rfl
end MachineSumsF
end Go.Proofs.YtekjphkabfiheaaGreat
