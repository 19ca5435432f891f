/- Words for the laws of layer 17. Conditions: those that each theorem states. -/
import Derived.Test.YteggbpaljmopoaaGreatRefsA
import Derived.Test.YteggbpaljmopoaaGreatMachE
set_option linter.unusedVariables false
set_option linter.unusedSimpArgs false
/- Words for the laws of layer 17. -/
namespace Go.Proofs.YteggbpaljmopoaaGreat
open Go.RowKit BF

theorem fewC_len {xs : List Ins} (h : fewC xs = true) : xs.length ≤ 60 := by
  unfold fewC at h
  simp at h
  exact h.2
def FewPost (w : World) (b : Bool) (e : Ending) (w' : World) : Prop := e = .returned (.bool b) ∧ Below w.heap.size w w'
def RunOk (w : World) (us : List UseV) (ws : List WorkV) (lead left : Int) (e : Ending) (w' : World) : Prop :=
  ∃ u k, e = .returned (.tuple #[u, k, .int .i64 lead, .int .i64 left, .int .i64 0]) ∧ RowIs UseAt 6 w' u us ∧ RowIs WorkAt 2 w' k ws ∧ Below w.heap.size w w'
theorem runOk_of {w w' : World} {e : Ending} {s : MS} {l : Nat} (h : RunPost w (.ok (s, l)) e w') : RunOk w s.us s.ws s.lead (l : Int) e w' := by
  obtain ⟨hb, u, k, he, hu, hk⟩ := h
  exact ⟨u, k, he, uses_row hu, work_row hk, hb⟩
theorem CodeIs.form {w : World} {v : Value} {xs : List Ins} (h : CodeIs w v xs) : ∃ p cap, v = .slice p xs.length cap := by
  rcases h with ⟨p, cap, rfl, rfl⟩ | ⟨g, o, cap, rfl, _⟩
  · exact ⟨_, _, rfl⟩
  · exact ⟨_, _, rfl⟩
theorem IntsIs.form {w : World} {v : Value} {xs : List Int} (h : IntsIs w v xs) : ∃ p cap, v = .slice p xs.length cap := by
  rcases h with ⟨p, cap, rfl, rfl⟩ | ⟨g, o, cap, rfl, _⟩
  · exact ⟨_, _, rfl⟩
  · exact ⟨_, _, rfl⟩
/-- what is proved of the examples -/
def SaneHolds : Prop := ∀ w : World, Calls Tryz.prog 4 #[] w fun e w' => e = .returned (.bool true) ∧ Below w.heap.size w w'

end Go.Proofs.YteggbpaljmopoaaGreat
