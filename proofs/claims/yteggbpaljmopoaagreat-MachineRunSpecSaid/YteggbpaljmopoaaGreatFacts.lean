/- Closed facts of the rows. Conditions: those that each theorem states. -/
import Derived.Test.YteggbpaljmopoaaGreatReads
import Derived.Test.YteggbpaljmopoaaGreatRows
import Derived.JoinedOf
set_option linter.unusedVariables false
set_option linter.unusedSimpArgs false
/- Closed facts on the program alone. -/
namespace Go.Proofs.YteggbpaljmopoaaGreat
open Go.RowKit Go.ChangeShapes Go.WideShapes Go.ChangeAt BF
theorem own : ownKnob Tryz.prog.godebug = none := by kernel_rfl
theorem laidOut : laidOutB Tryz.prog = true := by kernel_rfl
theorem fact_mapsRowed : mapsRowed Tryz.prog = true := by kernel_rfl
theorem fact_stops : (Tryz.prog.stops == []) = true := by kernel_rfl
theorem fact_stopKnobs : (Tryz.prog.stopKnobs == []) = true := by kernel_rfl
theorem fact_stopsHeard : Tryz.prog.stopsHeard = true := by kernel_rfl
theorem fact_mayEnter : Tryz.prog.mayEnter = true := by kernel_rfl
theorem fact_liftsFinal : (Rows.machineRunSpecRow.lifted == Tryz.prog.liftsFinal) = true := by kernel_rfl
theorem fact_make : (Tryz.prog.make == some Rows.machineRunSpecRow.make) = true := by kernel_rfl
theorem fact_plainKeys : (Rows.machineRunSpecRow.plainKeys == Tryz.prog.plainKeys) = true := by kernel_rfl
end Go.Proofs.YteggbpaljmopoaaGreat
