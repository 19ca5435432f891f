/- The law MachineRunSpec: its walk. Conditions: those that each theorem states. -/
import Derived.Test.YteggbpaljmopoaaGreatRefE
set_option linter.unusedVariables false
set_option linter.unusedSimpArgs false
/- backflushref17.Run, the whole; the law MachineRunSpec: its walk. -/
namespace Go.Proofs.YteggbpaljmopoaaGreat
open Go.RowKit BF

theorem s17Run_any (xs : List Ins) (cs : List Int) (am : RV) (fuel : Int) (cv sv : Value) (w : World) (hx : CodeIs w cv xs) (hl : xs.length ≤ 60) (hf : ∀ x ∈ xs, x.r.fits) (ha : am.fits) (hs : IntsIs w sv cs) (hcl : cs.length ≤ 1000)
    (hfu : fuel ≤ 9223372036854775807) : Calls Tryz.prog 8 #[cv, sv, am.v, .int .i64 fuel] w (RunPost w (runV xs cs am fuel)) := by
  have HC : ∀ k, checkM xs = k → Hid (∀ w1, Below w.heap.size w w1 → Calls Tryz.prog 10 #[cv] w1 fun e w' => e = .returned (.int .i64 k) ∧ Below w1.heap.size w1 w') := by
    intro k hk
    subst hk
    exact fun w1 hb => s17Check_is w1 cv xs (hx.under hb) hl hf
  have HA : ∀ k : Int, (if am.ok then 0 else 70) = k → Hid (∀ w : World, Calls Tryz.prog 21 #[.agg #[.bool am.neg, .string am.n, .string am.d]] w fun e w' => e = .returned (.int .i64 k) ∧ Below w.heap.size w w') := by
    intro k hk
    subst hk
    exact fun w => r7Check_r am ha w
  unfold runV
  by_cases h1 : checkM xs = 0
  case neg =>
    rw [if_pos h1]
    exact s17run_bad1 cv sv am fuel _ (by simpa using h1) w (HC _ rfl)
  rw [if_neg (by simpa using h1)]
  by_cases h2 : am.ok = false
  · rw [if_pos h2]
    exact s17run_bad2 cv sv am fuel 70 rfl w (HC _ h1) (HA _ (by simp [h2]))
  rw [if_neg h2]
  have h2' : am.ok = true := by simpa using h2
  by_cases h3 : am.neg = true ∨ cs = [] ∨ fuel < 0
  · rw [if_pos h3]
    have hsl : ∃ p cap, sv = .slice p cs.length cap := by
      rcases hs with ⟨p, cap, rfl, rfl⟩ | ⟨g, o, cap, rfl, _⟩
      · exact ⟨_, _, rfl⟩
      · exact ⟨_, _, rfl⟩
    obtain ⟨p, cap, rfl⟩ := hsl
    refine s17run_bad3 cv p cs.length cap am.neg am.n am.d fuel ?_ w (HC _ h1) (HA _ (by simp [h2']))
    by_cases hneg : am.neg = true
    · exact .inl hneg
    · refine .inr ?_
      have hneg' : am.neg = false := by simpa using hneg
      by_cases hc : cs = []
      · subst hc
        exact .inl ⟨hneg', by decide⟩
      · have h5 : 0 < cs.length := List.length_pos_iff.2 hc
        refine .inr ⟨hneg', by omega, ?_⟩
        rcases h3 with h | h | h
        · exact absurd h hneg
        · exact absurd h hc
        · exact h
  rw [if_neg h3]
  have hc : cs ≠ [] := fun h => h3 (.inr (.inl h))
  have hneg : am.neg = false := by
    cases h : am.neg
    · rfl
    · exact absurd (.inl h) h3
  have hfu0 : 0 ≤ fuel := by
    rcases Int.lt_or_le fuel 0 with h | h
    · exact absurd (.inr (.inr h)) h3
    · exact h
  obtain ⟨F, rfl⟩ := Int.eq_ofNat_of_zero_le hfu0
  rcases hx with ⟨p, cap, rfl, rfl⟩ | ⟨g, o, cap, rfl, hx2, hx3⟩
  · exact absurd h1 (by decide)
  have hs0 := hs
  have hsl : ∃ p cap, sv = .slice p cs.length cap := by
    rcases hs with ⟨p, cap, rfl, rfl⟩ | ⟨g, o, cap, rfl, _⟩
    · exact ⟨_, _, rfl⟩
    · exact ⟨_, _, rfl⟩
  obtain ⟨p2, cap2, rfl⟩ := hsl
  have HA0 := HA 0 (by simp [h2'])
  obtain ⟨neg, an, ad⟩ := am
  dsimp only at hneg
  subst hneg
  have hcl0 : 0 < cs.length := List.length_pos_iff.2 hc
  have hla : (lastOk xs && allV xs) = true := by
    unfold checkM at h1
    split at h1
    · assumption
    · exact absurd h1 (by decide)
  simp only [Bool.and_eq_true] at hla
  exact s17run_loop xs cs an ad F xs.length cs.length g o cap cap2 p2 hl (by omega) hfu rfl w hx3 hf ha hla.1 hla.2 hx2 (HC 0 h1) HA0 (Lib.hid fun w1 hb x hxa => s17holds_any x cs hc hxa hcl _ w1 (hs0.under hb))
def usOf : Except Int (MS × Nat) → List UseV | .ok (s, _) => s.us | .error _ => []
def wsOf : Except Int (MS × Nat) → List WorkV | .ok (s, _) => s.ws | .error _ => []
def leadOf : Except Int (MS × Nat) → Int | .ok (s, _) => s.lead | .error _ => 0
def leftOf : Except Int (MS × Nat) → Int | .ok (_, f) => (f : Int) | .error _ => 0
def errOf : Except Int (MS × Nat) → Int | .ok _ => 0 | .error k => k
def RunAll (us : List UseV) (ws : List WorkV) (lead left E : Int) (w : World) (e : Ending) (w' : World) : Prop :=
  ∃ u k, e = .returned (.tuple #[u, k, .int .i64 lead, .int .i64 left, .int .i64 E]) ∧ RowIs UseAt 6 w' u us ∧ RowIs WorkAt 2 w' k ws ∧ Below w.heap.size w w'
theorem runAll_of {w w' : World} {e : Ending} {R : Except Int (MS × Nat)} (h : RunPost w R e w') : RunAll (usOf R) (wsOf R) (leadOf R) (leftOf R) (errOf R) w e w' := by
  match R, h with
  | .error k, h =>
    obtain ⟨he, hb⟩ := h
    exact ⟨_, _, he, .inl ⟨none, 0, rfl, rfl⟩, .inl ⟨none, 0, rfl, rfl⟩, hb⟩
  | .ok (s, l), h =>
    obtain ⟨hb, u, k, he, hu, hk⟩ := h
    exact ⟨u, k, he, uses_row hu, work_row hk, hb⟩
set_option maxRecDepth 100000 in
set_option maxHeartbeats 2000000 in
theorem runspec_few (b1 b2 : Bool) (m : Nat) (hm : m ≤ maxLen) (hb : b1 = false ∨ b1 = true ∧ b2 = false ∨ b1 = true ∧ b2 = true ∧ 12 < m) (cv : Value) (p : Option Addr) (cap : Nat) (n0 : Bool) (n1 n2 : ByteArray) (fu : Int) (w : World)
    (HS : Hid (∀ w : World, Calls Tryz.prog 4 #[] w fun e w' => e = .returned (.bool true) ∧ Below w.heap.size w w'))
    (HF : Hid (∀ w', Below w.heap.size w w' → Calls Tryz.prog 5 #[cv] w' fun e w'' => e = .returned (.bool b1) ∧ Below w'.heap.size w' w''))
    (HR : Hid (∀ w : World, Calls Tryz.prog 6 #[.agg #[.bool n0, .string n1, .string n2]] w fun e w' => e = .returned (.bool b2) ∧ Below w.heap.size w w')) :
    Calls Tryz.prog 3 #[cv, .slice p m cap, .agg #[.bool n0, .string n1, .string n2], .int .i64 fu] w fun e w' => e = .returned (.bool true) ∧ Below w.heap.size w w' := by
  unfold maxLen at hm
  obtain ⟨W0, hW0, HA, HW⟩ := one_box w #[.bool n0, .string n1, .string n2]
  go_enter Tryz.func3, Tryz.ntmps3
  go_wp2_with (fail)
  refine (HS.out _).mono ?_
  rintro e w1 ⟨rfl, hb1⟩
  have HA1 := Lib.hid (HA.out.under hb1)
  have HW1 := Lib.hid (HW.out.trans (hb1.mono HW.out.size))
  clear hb1
  go_wp2_with (fail)
  refine (HF.out _ HW1.out).mono ?_
  rintro e w2 ⟨rfl, hb1⟩
  have HA2 := Lib.hid (HA1.out.under hb1)
  have HW2 := Lib.hid (HW1.out.trans (hb1.mono HW1.out.size))
  clear hb1
  have c0 := HA2.out.cell (i := 0) rfl
  have c1 := HA2.out.cell (i := 1) rfl
  have c2 := HA2.out.cell (i := 2) rfl
  rcases hb with rfl | ⟨rfl, rfl⟩ | ⟨rfl, rfl, h12⟩
  · go_wp2
    go_ret
    exact ⟨rfl, HW2.out⟩
  · go_wp2_with (fail)
    refine (HR.out _).mono ?_
    rintro e w3 ⟨rfl, hb1⟩
    have HW3 := Lib.hid (HW2.out.trans (hb1.mono HW2.out.size))
    clear hb1 c0 c1 c2
    go_wp2
    go_ret
    exact ⟨rfl, HW3.out⟩
  · go_wp2_with (fail)
    refine (HR.out _).mono ?_
    rintro e w3 ⟨rfl, hb1⟩
    have HW3 := Lib.hid (HW2.out.trans (hb1.mono HW2.out.size))
    clear hb1 c0 c1 c2
    have h12' : (12 : Int) < (m : Int) := by omega
    go_wp2
    go_ret
    exact ⟨rfl, HW3.out⟩
set_option maxRecDepth 100000 in
set_option maxHeartbeats 4000000 in
theorem runspec_main (us : List UseV) (ws : List WorkV) (lead left E K : Int) (m : Nat) (hm : m ≤ 12) (cv : Value) (p : Option Addr) (cap : Nat) (n0 : Bool) (n1 n2 : ByteArray) (fu : Int) (w : World)
    (HS : Hid (∀ w : World, Calls Tryz.prog 4 #[] w fun e w' => e = .returned (.bool true) ∧ Below w.heap.size w w'))
    (HF : Hid (∀ w', Below w.heap.size w w' → Calls Tryz.prog 5 #[cv] w' fun e w'' => e = .returned (.bool true) ∧ Below w'.heap.size w' w''))
    (HR : Hid (∀ w : World, Calls Tryz.prog 6 #[.agg #[.bool n0, .string n1, .string n2]] w fun e w' => e = .returned (.bool true) ∧ Below w.heap.size w w'))
    (H0 : Hid (∀ w', Below w.heap.size w w' → Calls Tryz.prog 7 #[cv, .slice p m cap, .agg #[.bool n0, .string n1, .string n2], .int .i64 fu] w' (RunAll us ws lead left E w')))
    (H1 : Hid (∀ w', Below w.heap.size w w' → Calls Tryz.prog 8 #[cv, .slice p m cap, .agg #[.bool n0, .string n1, .string n2], .int .i64 fu] w' (RunAll us ws lead left E w')))
    (H2 : Hid (∀ w', Below w.heap.size w w' → Calls Tryz.prog 9 #[cv] w' fun e w'' => e = .returned (.int .i64 K) ∧ Below w'.heap.size w' w''))
    (H3 : Hid (∀ w', Below w.heap.size w w' → Calls Tryz.prog 10 #[cv] w' fun e w'' => e = .returned (.int .i64 K) ∧ Below w'.heap.size w' w'')) :
    Calls Tryz.prog 3 #[cv, .slice p m cap, .agg #[.bool n0, .string n1, .string n2], .int .i64 fu] w fun e w' => e = .returned (.bool true) ∧ Below w.heap.size w w' := by
  have hm12 : ¬ (12 : Int) < (m : Int) := by omega
  unfold RunAll at H0 H1
  obtain ⟨W0, hW0, HA, HW⟩ := one_box w #[.bool n0, .string n1, .string n2]
  go_enter Tryz.func3, Tryz.ntmps3
  go_wp2_with (fail)
  refine (HS.out _).mono ?_
  rintro e w1 ⟨rfl, hb1⟩
  have HA1 := Lib.hid (HA.out.under hb1)
  have HW1 := Lib.hid (HW.out.trans (hb1.mono HW.out.size))
  clear hb1
  go_wp2_with (fail)
  refine (HF.out _ HW1.out).mono ?_
  rintro e w2 ⟨rfl, hb1⟩
  have HA2 := Lib.hid (HA1.out.under hb1)
  have HW2 := Lib.hid (HW1.out.trans (hb1.mono HW1.out.size))
  clear hb1
  have c0 := HA2.out.cell (i := 0) rfl
  have c1 := HA2.out.cell (i := 1) rfl
  have c2 := HA2.out.cell (i := 2) rfl
  go_wp2_with (fail)
  refine (HR.out _).mono ?_
  rintro e w3 ⟨rfl, hb1⟩
  have HA3 := Lib.hid (HA2.out.under hb1)
  have HW3 := Lib.hid (HW2.out.trans (hb1.mono HW2.out.size))
  clear hb1 c0 c1 c2
  have c0 := HA3.out.cell (i := 0) rfl
  have c1 := HA3.out.cell (i := 1) rfl
  have c2 := HA3.out.cell (i := 2) rfl
  go_wp2_with (fail)
  refine (H0.out _ HW3.out).mono ?_
  rintro e w4 ⟨u, k, rfl, hu, hk, hb1⟩
  have HA4 := Lib.hid (HA3.out.under hb1)
  have HW4 := Lib.hid (HW3.out.trans (hb1.mono HW3.out.size))
  have HU4 := Lib.hid hu
  have HK4 := Lib.hid hk
  clear hb1 c0 c1 c2 hu hk
  have c0 := HA4.out.cell (i := 0) rfl
  have c1 := HA4.out.cell (i := 1) rfl
  have c2 := HA4.out.cell (i := 2) rfl
  go_wp2_with (fail)
  refine (H1.out _ HW4.out).mono ?_
  rintro e w5 ⟨v, x, rfl, hu, hk, hb1⟩
  have HW5 := Lib.hid (HW4.out.trans (hb1.mono HW4.out.size))
  have HU5 := Lib.hid (uses_under HU4.out hb1)
  have HK5 := Lib.hid (work_under HK4.out hb1)
  have HV5 := Lib.hid hu
  have HX5 := Lib.hid hk
  clear hb1 c0 c1 c2 hu hk
  go_wp2_with (fail)
  refine (H2.out _ HW5.out).mono ?_
  rintro e w6 ⟨rfl, hb1⟩
  have HW6 := Lib.hid (HW5.out.trans (hb1.mono HW5.out.size))
  have HU6 := Lib.hid (uses_under HU5.out hb1)
  have HK6 := Lib.hid (work_under HK5.out hb1)
  have HV6 := Lib.hid (uses_under HV5.out hb1)
  have HX6 := Lib.hid (work_under HX5.out hb1)
  clear hb1
  go_wp2_with (fail)
  refine (H3.out _ HW6.out).mono ?_
  rintro e w7 ⟨rfl, hb1⟩
  have HW7 := Lib.hid (HW6.out.trans (hb1.mono HW6.out.size))
  have HU7 := Lib.hid (uses_under HU6.out hb1)
  have HK7 := Lib.hid (work_under HK6.out hb1)
  have HV7 := Lib.hid (uses_under HV6.out hb1)
  have HX7 := Lib.hid (work_under HX6.out hb1)
  clear hb1
  go_wp2_with (fail)
  refine (same_u _ _ us _ HU7.out HV7.out).mono ?_
  rintro e w8 ⟨rfl, hb1⟩
  have HW8 := Lib.hid (HW7.out.trans (hb1.mono HW7.out.size))
  have HK8 := Lib.hid (work_under HK7.out hb1)
  have HX8 := Lib.hid (work_under HX7.out hb1)
  clear hb1
  go_wp2_with (fail)
  refine (same_w _ _ ws _ HK8.out HX8.out).mono ?_
  rintro e w9 ⟨rfl, hb1⟩
  have HW9 := Lib.hid (HW8.out.trans (hb1.mono HW8.out.size))
  clear hb1
  go_wp2
  go_ret
  exact ⟨rfl, HW9.out⟩
theorem runspec_walk (HS : SaneHolds) (xs : List Ins) (cs : List Int) (am : RV) (fu : Int) (cv sv : Value) (w : World) (hx : CodeIs w cv xs) (hf : ∀ x ∈ xs, x.r.fits) (hl : xs.length ≤ maxLen) (hs : IntsIs w sv cs) (hsl : cs.length ≤ maxLen) (ha : am.fits) (hfu : fu ≤ 9223372036854775807) :
    Calls Tryz.prog 3 #[cv, sv, am.v, .int .i64 fu] w fun e w' => e = .returned (.bool true) ∧ Below w.heap.size w w' := by
  obtain ⟨p, cap, hsv⟩ := hs.form
  have HF : ∀ b, fewC xs = b → Hid (∀ w', Below w.heap.size w w' → Calls Tryz.prog 5 #[cv] w' fun e w'' => e = .returned (.bool b) ∧ Below w'.heap.size w' w'') := fun b hb => by
    subst hb; exact fun w' h => Few_any cv xs w' (hx.under h) hf hl
  have HR : ∀ b, fewB am = b → Hid (∀ w : World, Calls Tryz.prog 6 #[.agg #[.bool am.neg, .string am.n, .string am.d]] w fun e w' => e = .returned (.bool b) ∧ Below w.heap.size w w') := fun b hb => by
    subst hb; exact fun w' => FewRatio_any am ha w'
  show Calls _ _ #[cv, sv, .agg #[.bool am.neg, .string am.n, .string am.d], .int .i64 fu] _ _
  cases hb1 : fewC xs with
  | false => rw [hsv]; exact runspec_few false (fewB am) cs.length hsl (.inl rfl) cv p cap am.neg am.n am.d fu w HS (HF _ hb1) (HR _ rfl)
  | true =>
  cases hb2 : fewB am with
  | false => rw [hsv]; exact runspec_few true false cs.length hsl (.inr (.inl ⟨rfl, rfl⟩)) cv p cap am.neg am.n am.d fu w HS (HF _ hb1) (HR _ hb2)
  | true =>
  by_cases hc : 12 < cs.length
  · rw [hsv]; exact runspec_few true true cs.length hsl (.inr (.inr ⟨rfl, rfl, hc⟩)) cv p cap am.neg am.n am.d fu w HS (HF _ hb1) (HR _ hb2)
  have hn := fewC_len hb1
  have h0 : ∀ w', Below w.heap.size w w' → Calls Tryz.prog 7 #[cv, sv, am.v, .int .i64 fu] w' (RunAll (usOf (runV xs cs am fu)) (wsOf (runV xs cs am fu)) (leadOf (runV xs cs am fu)) (leftOf (runV xs cs am fu)) (errOf (runV xs cs am fu)) w') := fun w' hb =>
    (Run_any xs cs am fu cv sv w' (hx.under hb) hn hf ha (hs.under hb) (by omega) hfu).mono fun e w'' h => runAll_of h
  have h1 : ∀ w', Below w.heap.size w w' → Calls Tryz.prog 8 #[cv, sv, am.v, .int .i64 fu] w' (RunAll (usOf (runV xs cs am fu)) (wsOf (runV xs cs am fu)) (leadOf (runV xs cs am fu)) (leftOf (runV xs cs am fu)) (errOf (runV xs cs am fu)) w') := fun w' hb =>
    (s17Run_any xs cs am fu cv sv w' (hx.under hb) hn hf ha (hs.under hb) (by omega) hfu).mono fun e w'' h => runAll_of h
  rw [hsv] at h0 h1 ⊢
  exact runspec_main _ _ _ _ _ (checkM xs) cs.length (by omega) cv p cap am.neg am.n am.d fu w HS (HF _ hb1) (HR _ hb2) h0 h1
    (fun w' hb => MCheck_is w' cv xs (hx.under hb) hn hf) (fun w' hb => s17Check_is w' cv xs (hx.under hb) hn hf)
end Go.Proofs.YteggbpaljmopoaaGreat
