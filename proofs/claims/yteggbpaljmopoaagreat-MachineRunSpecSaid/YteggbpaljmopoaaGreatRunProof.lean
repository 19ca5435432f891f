/- MachineRunSpec: for every program, every list of choices, every amount and every fuel the call returns true, and each argument reads afterwards as it read before. Conditions: those that each theorem states. -/
import Derived.Test.YteggbpaljmopoaaGreatRunW
import Derived.Test.YteggbpaljmopoaaGreatRunJ
set_option linter.unusedVariables false
set_option linter.unusedSimpArgs false
/- MachineRunSpec: for every program, every list of choices, every amount and every fuel the call returns true, and each argument reads afterwards as it read before. Conditions: those of the given row alone. -/
namespace Go.Proofs.YteggbpaljmopoaaGreat
open Go.RowKit Go.ChangeShapes Go.WideShapes Go.ChangeAt BF

theorem readables {P : Program} {l : List TypeId} (h : (l.all fun t => P.readableRec t && decide (t < P.types.size)) = true) : ∀ t ∈ l, P.readableRec t = true ∧ t < P.types.size := by
  intro t ht
  have := List.all_eq_true.1 h t ht
  simpa using this
theorem four_of {α : Type} {l : List α} (h : l.length = 4) : ∃ a b c d, l = [a, b, c, d] := by
  match l, h with
  | [a, b, c, d], _ => exact ⟨a, b, c, d, rfl⟩
set_option maxRecDepth 100000 in
theorem runspec_lifted (HS : SaneHolds) (os : Os) (started : os.Started) (H : Type) (enc : TypeId × Value → H) :
    ReturnsInHanded {} Tryz.checked os 3 .any (Rows.machineRunSpecSpec.pre6 enc Tryz.prog Tryz.f3 Rows.machineRunSpecRow.domain false) (Rows.machineRunSpecSpec.post enc Tryz.prog Tryz.f3 false true false false) := by
  refine returnsInHanded_of_change (C := Tryz.checked) own started (by kernel_rfl) Tryz.func3
    (ChangeSpec.witness6 (enc := enc) (C := Tryz.checked) false ⟨#[], #[.slice none 0 0, .slice none 0 0, .agg #[.bool false, .string { data := #[] }, .string { data := #[] }], .int .i64 0], []⟩ 8 (by kernel_rfl) (by kernel_rfl) (by kernel_rfl) (by kernel_rfl)) ?_
  intro W base args ds gs before hval0 hW hcnd _
  have hval : ∀ (j : Nat) t v, Tryz.f3.params[j]? = some t → args[j]? = some v → Value.okWide Tryz.prog W .any 0 t v := fun j t v h1 h2 => Value.okWide_any_base (hval0 j t v h1 h2)
  have hW' := hW
  obtain ⟨p, q, hA0, hV, rfl, hfz, hnd⟩ := hW
  have hA : DataW.TrodAll enc Tryz.prog W 0 (fun _ => true) true Tryz.f3.params.toList args.toList ds p := hA0
  rw [Tryz.params3] at hA hval
  obtain ⟨v0, v1, v2, v3, d0, d1, d2, d3, p0, p1, p2, p3, rfl, rfl, rfl, h0, h1, h2, h3⟩ := trodAll_four hA
  obtain ⟨xs, hx⟩ := open_arg opens_code h0
  obtain ⟨cs, hc⟩ := open_arg opens_ints h1
  obtain ⟨am, ha⟩ := open_arg opens_RV h2
  obtain ⟨mo, hm⟩ := open_arg (opens_int Tryz.underlying3) h3
  obtain ⟨x1, x2, x3⟩ := codeIs_of (arg_slice Tryz.underlying22 (hval 0 _ v0 rfl rfl) hx)
  obtain ⟨c1, c2, c3⟩ := intsIs_of (arg_slice Tryz.underlying23 (hval 1 _ v1 rfl rfl) hc)
  obtain ⟨rfl, a2⟩ := rv_of (hval 2 _ v2 rfl rfl) ha
  obtain ⟨rfl, m2⟩ := arg_int Tryz.underlying3 (hval 3 _ v3 rfl rfl) hm
  have e1 : IntKind.i64.min = -9223372036854775808 := by decide
  have e2 : IntKind.i64.max = 9223372036854775807 := by decide
  simp only [Lit.wf, Bool.and_eq_true, decide_eq_true_eq, e1, e2] at m2
  refine (runspec_walk HS xs cs am mo v0 v1 W x1 x2 x3 c1 c3 a2 m2.2).mono fun e W' ⟨he, hb⟩ => ?_
  subst he
  exact ⟨_, rfl, law_post laidOut (readables MachineRunSpecF.params) rfl rfl Tryz.underlying4 (fun ds h => by obtain ⟨d0, d1, d2, d3, rfl⟩ := four_of h; exact ⟨rfl, rfl, rfl⟩) hW' hb⟩
theorem runspec_over (HS : SaneHolds) : Rows.machineRunSpecRow.holds Tryz.pinned (OpenSpec.ofChange Rows.machineRunSpecSpec) :=
  OpenClaim.holds_of_wide 3 Tryz.f3 rfl rfl rfl rfl rfl rfl rfl ⟨rfl, rfl, rfl, rfl, rfl⟩ rfl rfl rfl rfl rfl MachineRunSpecF.named Tryz.func3 MachineRunSpecF.joined
    (of_decide_eq_true (by kernel_rfl)) (by unfold Func.isWrapper; first | (rw [if_pos (by decide +kernel)]; kernel_rfl) | (rw [if_neg (by decide +kernel)]; exact ⟨rfl, rfl⟩))
    (fun os started H enc _ => runspec_lifted HS os started H enc)
theorem machineRunSpec : Rows.MachineRunSpecSaid := runspec_over sane_holds
end Go.Proofs.YteggbpaljmopoaaGreat
