/- The closed facts of the row of MachineRunSpec, joined. Conditions: those that each theorem states. -/
import Derived.Test.YteggbpaljmopoaaGreatRunF
set_option linter.unusedVariables false
set_option linter.unusedSimpArgs false
/- The closed facts of the row of MachineRunSpec, joined. PRINTED BY wip/gen_facts.py -/
namespace Go.Proofs.YteggbpaljmopoaaGreat
open Go.RowKit Go.ChangeShapes Go.WideShapes Go.ChangeAt BF
namespace MachineRunSpecF
set_option maxRecDepth 100000 in
theorem joined : joinedFacts Tryz.prog 3 Tryz.f3 Rows.machineRunSpecSpec Rows.machineRunSpecRow = true := by
  unfold joinedFacts
  simp only [Bool.and_eq_true]
  exact ⟨⟨⟨⟨⟨⟨⟨⟨⟨⟨⟨⟨⟨⟨⟨⟨⟨⟨⟨⟨⟨⟨⟨⟨⟨⟨⟨⟨⟨⟨⟨f1, laidOut⟩, fact_mapsRowed⟩, f4⟩, f5⟩, f6⟩, fact_stops⟩, f8⟩, fact_stopKnobs⟩, f10⟩, f11⟩, f12⟩, f13⟩, f14⟩, f15⟩, f16⟩, f17⟩, f18⟩, f19⟩, f20⟩, f21⟩, f22⟩, fact_plainKeys⟩, f24⟩, fact_stopsHeard⟩, fact_mayEnter⟩, fact_liftsFinal⟩, fact_make⟩, (by kernel_rfl)⟩, f30⟩, f31⟩, f32⟩
end MachineRunSpecF
end Go.Proofs.YteggbpaljmopoaaGreat
