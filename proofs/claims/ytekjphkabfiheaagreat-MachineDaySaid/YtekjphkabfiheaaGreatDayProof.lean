/- MachineDay: for every program, every list of choices, every two days, every further choice and every amount the call returns true, and each argument reads afterwards as it read before. Conditions: those that each theorem states. -/
import Derived.Test.YtekjphkabfiheaaGreatDayW
import Derived.Test.YtekjphkabfiheaaGreatSane
import Derived.Test.YtekjphkabfiheaaGreatDayJ
set_option linter.unusedVariables false
set_option linter.unusedSimpArgs false
/- MachineDay: for every program, every list of choices, every two days, every further choice and every amount the call returns true, and each argument reads afterwards as it read before. Conditions: those of the given row alone. -/
namespace Go.Proofs.YtekjphkabfiheaaGreat
open Go.RowKit Go.ChangeShapes Go.WideShapes Go.ChangeAt BF

theorem readables6 {P : Program} {l : List TypeId} (h : (l.all fun t => P.readableRec t && decide (t < P.types.size)) = true) : ∀ t ∈ l, P.readableRec t = true ∧ t < P.types.size := by
  intro t ht
  have := List.all_eq_true.1 h t ht
  simpa using this
theorem trodAll_six {H : Type} {enc : TypeId × Value → H} {P : Program} {w : World} {base : Nat} {spare : Nat → Bool} {held : Bool} {t0 t1 t2 t3 t4 t5 : TypeId} {args : Array Value} {ds : List (DataW H)} {ps : List MemPlace} (h : DataW.TrodAll enc P w base spare held [t0, t1, t2, t3, t4, t5] args.toList ds ps) :
    ∃ v0 v1 v2 v3 v4 v5 d0 d1 d2 d3 d4 d5 p0 p1 p2 p3 p4 p5, args = #[v0, v1, v2, v3, v4, v5] ∧ ds = [d0, d1, d2, d3, d4, d5] ∧ ps = p0 ++ p1 ++ p2 ++ p3 ++ p4 ++ p5 ∧ DataW.Trod enc P w base spare held t0 v0 d0 p0 ∧ DataW.Trod enc P w base spare held t1 v1 d1 p1 ∧
      DataW.Trod enc P w base spare held t2 v2 d2 p2 ∧ DataW.Trod enc P w base spare held t3 v3 d3 p3 ∧ DataW.Trod enc P w base spare held t4 v4 d4 p4 ∧ DataW.Trod enc P w base spare held t5 v5 d5 p5 := by
  obtain ⟨v0, l0, d0, e0, p0, q0, hargs, rfl, rfl, h0, r0⟩ := trodAll_cons h
  obtain ⟨v1, l1, d1, e1, p1, q1, rfl, rfl, rfl, h1, r1⟩ := trodAll_cons r0
  obtain ⟨v2, l2, d2, e2, p2, q2, rfl, rfl, rfl, h2, r2⟩ := trodAll_cons r1
  obtain ⟨v3, l3, d3, e3, p3, q3, rfl, rfl, rfl, h3, r3⟩ := trodAll_cons r2
  obtain ⟨v4, l4, d4, e4, p4, q4, rfl, rfl, rfl, h4, r4⟩ := trodAll_cons r3
  obtain ⟨v5, l5, d5, e5, p5, q5, rfl, rfl, rfl, h5, r5⟩ := trodAll_cons r4
  obtain ⟨rfl, rfl, rfl⟩ := trodAll_nil r5
  exact ⟨v0, v1, v2, v3, v4, v5, d0, d1, d2, d3, d4, d5, p0, p1, p2, p3, p4, p5, by cases args; simp_all, rfl, by simp, h0, h1, h2, h3, h4, h5⟩
theorem six_of {α : Type} {l : List α} (h : l.length = 6) : ∃ a b c d e f, l = [a, b, c, d, e, f] := by
  match l, h with
  | [a, b, c, d, e, f], _ => exact ⟨a, b, c, d, e, f, rfl⟩
set_option maxRecDepth 100000 in
theorem day_lifted (HS : SaneHolds) (os : Os) (started : os.Started) (H : Type) (enc : TypeId × Value → H) :
    ReturnsInHanded {} Tryz.checked os 12 .any (Rows.machineDaySpec.pre6 enc Tryz.prog Tryz.f12 Rows.machineDayRow.domain false) (Rows.machineDaySpec.post enc Tryz.prog Tryz.f12 false true false false) := by
  refine returnsInHanded_of_change (C := Tryz.checked) own started (by kernel_rfl) Tryz.func12
    (ChangeSpec.witness6 (enc := enc) (C := Tryz.checked) false ⟨#[], #[.slice none 0 0, .slice none 0 0, .int .i64 0, .int .i64 0, .int .i64 0, .agg #[.bool false, .string { data := #[] }, .string { data := #[] }]], []⟩ 8 (by kernel_rfl) (by kernel_rfl) (by kernel_rfl) (by kernel_rfl)) ?_
  intro W base args ds gs before hval0 hW hcnd _
  have hval : ∀ (j : Nat) t v, Tryz.f12.params[j]? = some t → args[j]? = some v → Value.okWide Tryz.prog W .any 0 t v := fun j t v h1 h2 => Value.okWide_any_base (hval0 j t v h1 h2)
  have hW' := hW
  obtain ⟨p, q, hA0, hV, rfl, hfz, hnd⟩ := hW
  have hA : DataW.TrodAll enc Tryz.prog W 0 (fun _ => true) true Tryz.f12.params.toList args.toList ds p := hA0
  rw [Tryz.params12] at hA hval
  obtain ⟨v0, v1, v2, v3, v4, v5, d0, d1, d2, d3, d4, d5, p0, p1, p2, p3, p4, p5, rfl, rfl, rfl, h0, h1, h2, h3, h4, h5⟩ := trodAll_six hA
  obtain ⟨xs, hx⟩ := open_arg opens_code h0
  obtain ⟨cs, hc⟩ := open_arg opens_ints h1
  obtain ⟨n2, hn2⟩ := open_arg (opens_int Tryz.underlying3) h2
  obtain ⟨n3, hn3⟩ := open_arg (opens_int Tryz.underlying3) h3
  obtain ⟨n4, hn4⟩ := open_arg (opens_int Tryz.underlying3) h4
  obtain ⟨am, ha⟩ := open_arg opens_RV h5
  obtain ⟨x1, x2, x3⟩ := codeIs_of (arg_slice Tryz.underlying59 (hval 0 _ v0 rfl rfl) hx)
  obtain ⟨c1, c2, c3⟩ := intsIs_of (arg_slice Tryz.underlying34 (hval 1 _ v1 rfl rfl) hc)
  obtain ⟨rfl, m2⟩ := arg_int Tryz.underlying3 (hval 2 _ v2 rfl rfl) hn2
  obtain ⟨rfl, m3⟩ := arg_int Tryz.underlying3 (hval 3 _ v3 rfl rfl) hn3
  obtain ⟨rfl, m4⟩ := arg_int Tryz.underlying3 (hval 4 _ v4 rfl rfl) hn4
  obtain ⟨rfl, a2⟩ := rv_of (hval 5 _ v5 rfl rfl) ha
  refine (day_walk HS xs cs am n2 n3 n4 v0 v1 W x1 x2 x3 c1 c3 a2).mono fun e W' ⟨he, hb⟩ => ?_
  subst he
  exact ⟨_, rfl, law_post laidOut (readables6 MachineDayF.params) rfl rfl Tryz.underlying4 (fun ds h => by obtain ⟨d0, d1, d2, d3, d4, d5, rfl⟩ := six_of h; exact ⟨rfl, rfl, rfl⟩) hW' hb⟩
theorem day_over (HS : SaneHolds) : Rows.machineDayRow.holds Tryz.pinned (OpenSpec.ofChange Rows.machineDaySpec) :=
  OpenClaim.holds_of_wide 12 Tryz.f12 rfl rfl rfl rfl rfl rfl rfl ⟨rfl, rfl, rfl, rfl, rfl⟩ rfl rfl rfl rfl rfl MachineDayF.named Tryz.func12 MachineDayF.joined
    (of_decide_eq_true (by kernel_rfl)) (by unfold Func.isWrapper; first | (rw [if_pos (by decide +kernel)]; kernel_rfl) | (rw [if_neg (by decide +kernel)]; exact ⟨rfl, rfl⟩))
    (fun os started H enc _ => day_lifted HS os started H enc)
theorem machineDay : Rows.MachineDaySaid := day_over sane_holds
end Go.Proofs.YtekjphkabfiheaaGreat
