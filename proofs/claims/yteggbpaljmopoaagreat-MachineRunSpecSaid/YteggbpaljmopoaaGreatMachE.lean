/- The package machine: a run, and the laws of plain runs. Conditions: those that each theorem states. -/
import Derived.Test.YteggbpaljmopoaaGreatMachD
set_option linter.unusedVariables false
set_option linter.unusedSimpArgs false
/- machine.Run: the whole. -/
namespace Go.Proofs.YteggbpaljmopoaaGreat
open Go.RowKit BF

/-- a slice that reads as a program -/
def CodeIs (w : World) (v : Value) (xs : List Ins) : Prop :=
  (∃ p cap, v = .slice p 0 cap ∧ xs = []) ∨ ∃ g o cap, v = .slice (some ⟨g, o, none⟩) xs.length cap ∧ xs ≠ [] ∧ CodeAt w g o xs
/-- a slice that reads as numbers -/
def IntsIs (w : World) (v : Value) (cs : List Int) : Prop :=
  (∃ p cap, v = .slice p 0 cap ∧ cs = []) ∨ ∃ g o cap, v = .slice (some ⟨g, o, none⟩) cs.length cap ∧ cs ≠ [] ∧ g < w.heap.size ∧ ∀ j, (h : j < cs.length) → w.cell? ⟨g, o + j, none⟩ = some (.int .i64 cs[j])
theorem CodeIs.under {w w' : World} {v : Value} {xs : List Ins} (h : CodeIs w v xs) (hb : Below w.heap.size w w') : CodeIs w' v xs := by
  rcases h with h | ⟨g, o, cap, h1, h2, h3⟩
  · exact .inl h
  · exact .inr ⟨g, o, cap, h1, h2, h3.below hb h3.1⟩
theorem IntsIs.under {w w' : World} {v : Value} {cs : List Int} (h : IntsIs w v cs) (hb : Below w.heap.size w w') : IntsIs w' v cs := by
  rcases h with h | ⟨g, o, cap, h1, h2, h3, h4⟩
  · exact .inl h
  · exact .inr ⟨g, o, cap, h1, h2, Nat.lt_of_lt_of_le h3 hb.size, fun j hj => (hb.cell (p := ⟨g, o + j, none⟩) h3).trans (h4 j hj)⟩

theorem MCheck_is (w : World) (v : Value) (xs : List Ins) (h : CodeIs w v xs) (hn : xs.length ≤ 60) (hf : ∀ x ∈ xs, x.r.fits) :
    Calls Tryz.prog 9 #[v] w fun e w' => e = .returned (.int .i64 (checkM xs)) ∧ Below w.heap.size w w' := by
  rcases h with ⟨p, cap, rfl, rfl⟩ | ⟨g, o, cap, rfl, h2, h3⟩
  · exact MCheck_nil p cap w
  · exact MCheck_any g o cap xs h2 hn w h3 hf

theorem Run_any (xs : List Ins) (cs : List Int) (am : RV) (fuel : Int) (cv sv : Value) (w : World) (hx : CodeIs w cv xs) (hl : xs.length ≤ 60) (hf : ∀ x ∈ xs, x.r.fits) (ha : am.fits) (hs : IntsIs w sv cs) (hcl : cs.length ≤ 1000)
    (hfu : fuel ≤ 9223372036854775807) : Calls Tryz.prog 7 #[cv, sv, am.v, .int .i64 fuel] w (RunPost w (runV xs cs am fuel)) := by
  have HC : ∀ k, checkM xs = k → Hid (∀ w1, Below w.heap.size w w1 → Calls Tryz.prog 9 #[cv] w1 fun e w' => e = .returned (.int .i64 k) ∧ Below w1.heap.size w1 w') := by
    intro k hk
    subst hk
    exact fun w1 hb => MCheck_is w1 cv xs (hx.under hb) hl hf
  have HA : ∀ k : Int, (if am.ok then 0 else 70) = k → Hid (∀ w : World, Calls Tryz.prog 16 #[.agg #[.bool am.neg, .string am.n, .string am.d]] w fun e w' => e = .returned (.int .i64 k) ∧ Below w.heap.size w w') := by
    intro k hk
    subst hk
    exact fun w => RCheck_r am ha w
  unfold runV
  by_cases h1 : checkM xs = 0
  case neg =>
    rw [if_pos h1]
    exact run_bad1 cv sv am fuel _ (by simpa using h1) w (HC _ rfl)
  rw [if_neg (by simpa using h1)]
  by_cases h2 : am.ok = false
  · rw [if_pos h2]
    exact run_bad2 cv sv am fuel w (HC _ h1) (HA _ (by simp [h2]))
  rw [if_neg h2]
  have h2' : am.ok = true := by simpa using h2
  by_cases h3 : am.neg = true ∨ cs = [] ∨ fuel < 0
  · rw [if_pos h3]
    have hsl : ∃ p cap, sv = .slice p cs.length cap := by
      rcases hs with ⟨p, cap, rfl, rfl⟩ | ⟨g, o, cap, rfl, _⟩
      · exact ⟨_, _, rfl⟩
      · exact ⟨_, _, rfl⟩
    obtain ⟨p, cap, rfl⟩ := hsl
    refine run_bad3 cv p cs.length cap am fuel w ?_ (HC _ h1) (HA _ (by simp [h2']))
    by_cases hneg : am.neg = true
    · exact .inl hneg
    · refine .inr ?_
      have hneg' : am.neg = false := by simpa using hneg
      by_cases hc : cs = []
      · subst hc
        exact .inl ⟨hneg', rfl⟩
      · have : 0 < cs.length := List.length_pos_iff.2 hc
        refine .inr ⟨hneg', by simp; exact hc, ?_⟩
        rcases h3 with h | h | h
        · exact absurd h hneg
        · exact absurd h hc
        · exact h
  rw [if_neg h3]
  have hc : cs ≠ [] := fun h => h3 (.inr (.inl h))
  have hneg : am.neg = false := by
    cases h : am.neg
    · rfl
    · exact absurd (.inl h) h3
  have hfu0 : 0 ≤ fuel := by
    rcases Int.lt_or_le fuel 0 with h | h
    · exact absurd (.inr (.inr h)) h3
    · exact h
  obtain ⟨F, rfl⟩ := Int.eq_ofNat_of_zero_le hfu0
  rcases hx with ⟨p, cap, rfl, rfl⟩ | ⟨g, o, cap, rfl, hx2, hx3⟩
  · exact absurd h1 (by decide)
  rcases hs with ⟨p, cap, rfl, rfl⟩ | ⟨g2, o2, cap2, rfl, hs2, hs3, hs4⟩
  · exact absurd rfl hc
  have HA0 := HA 0 (by simp [h2'])
  obtain ⟨neg, an, ad⟩ := am
  dsimp only at hneg
  subst hneg
  have hcl0 : 0 < cs.length := List.length_pos_iff.2 hc
  have hla : (lastOk xs && allV xs) = true := by
    unfold checkM at h1
    split at h1
    · assumption
    · exact absurd h1 (by decide)
  simp only [Bool.and_eq_true] at hla
  exact run_main xs cs an ad g o xs.length cap g2 o2 cs.length cap2 F hfu (by simp; exact hc) w rfl hl hx3 hf hla.1 hla.2 ha rfl hcl hs3 hs4 (HC 0 h1) HA0 startM.b.neg startM.b.n startM.b.d rfl
    (Lib.hid fun w => New_any 0 1 (by decide) (by decide) (by decide) (by decide) (by decide) w)
end Go.Proofs.YteggbpaljmopoaaGreat
/- Plain laws on runs: fuel. -/
namespace Go.Proofs.YteggbpaljmopoaaGreat
open Go.RowKit BF

theorem divR_err {a b : RV} : (divR a b).2 = 0 ∨ (divR a b).2 = 2 ∨ (divR a b).2 = 70 ∨ (divR a b).2 = 71 := by
  unfold divR
  split
  · split
    · simp
    · split <;> simp
  · simp
theorem mulR_err {a b : RV} : (mulR a b).2 = 0 ∨ (mulR a b).2 = 2 ∨ (mulR a b).2 = 70 := by
  unfold mulR
  split
  · split <;> simp
  · simp
theorem ceilR_err {a : RV} : (ceilR a).2 = 0 ∨ (ceilR a).2 = 2 ∨ (ceilR a).2 = 70 := by
  unfold ceilR within
  split
  · split <;> simp
  · simp
theorem stepM_err {cs : List Int} {am : RV} {x : Ins} {s : MS} {e : Int} (h : stepM cs am x s = .error e) : e ≠ 0 ∧ e ≠ 170 := by
  unfold stepM at h
  split at h
  · cases h
  split at h
  · cases h
  split at h
  · split at h
    · cases h
    · rename_i h0
      cases h
      have := @divR_err am x.r
      omega
  split at h
  · split at h
    · cases h
    · rename_i h0
      cases h
      have := @mulR_err x.r s.b
      omega
  split at h
  · split at h
    · split at h
      · cases h; decide
      · cases h
    · rename_i h0
      cases h
      have := @ceilR_err s.b
      omega
  split at h
  · cases h
  · cases h; decide

/-- what a run comes to hangs on the fuel in that it may lack -/
theorem runM_shape (xs : List Ins) (cs : List Int) (am : RV) : ∀ (f : Nat) (s : MS), runM xs cs am f s = .error 170 ∨
    ∃ k, k ≤ f ∧ (s.done = false → 0 < k) ∧ ((∃ e, e ≠ 0 ∧ e ≠ 170 ∧ ∀ m, runM xs cs am m s = if m < k then .error 170 else .error e) ∨ ∃ s', ∀ m, runM xs cs am m s = if m < k then .error 170 else .ok (s', m - k)) := by
  intro f
  induction f with
  | zero =>
    intro s
    cases hd : s.done with
    | true => exact .inr ⟨0, by omega, by simp, .inr ⟨s, fun m => by simp [runM_done m hd]⟩⟩
    | false => exact .inl (runM_zero hd)
  | succ f ih =>
    intro s
    cases hd : s.done with
    | true => exact .inr ⟨0, by omega, by simp, .inr ⟨s, fun m => by simp [runM_done m hd]⟩⟩
    | false =>
      have hz := @runM_zero xs cs am s hd
      cases hx : xs[s.at_.toNat]? with
      | none =>
        refine .inr ⟨1, by omega, by simp, .inl ⟨-1, by decide, by decide, fun m => ?_⟩⟩
        cases m with
        | zero => rw [hz]; rfl
        | succ m => simp [runM, hd, hx]
      | some x =>
        have hs : ∀ m, runM xs cs am (m + 1) s = match stepM cs am x { s with at_ := s.at_ + 1 } with
            | .error e => .error e
            | .ok s' => runM xs cs am m s' := fun m => by simp only [runM, hd, Bool.false_eq_true, if_false, hx]; rfl
        cases hst : stepM cs am x { s with at_ := s.at_ + 1 } with
        | error e =>
          rw [hst] at hs
          refine .inr ⟨1, by omega, by simp, .inl ⟨e, (stepM_err hst).1, (stepM_err hst).2, fun m => ?_⟩⟩
          cases m with
          | zero => rw [hz]; rfl
          | succ m => rw [hs]; simp
        | ok s1 =>
          rw [hst] at hs
          rw [hs]
          rcases ih s1 with h | ⟨k, hk, _, h⟩
          · exact .inl h
          · refine .inr ⟨k + 1, by omega, by simp, ?_⟩
            rcases h with ⟨e, he0, he, h⟩ | ⟨s', h⟩
            · refine .inl ⟨e, he0, he, fun m => ?_⟩
              cases m with
              | zero => rw [hz]; simp
              | succ m => rw [hs]; simp only [h, Nat.add_lt_add_iff_right]
            · refine .inr ⟨s', fun m => ?_⟩
              cases m with
              | zero => rw [hz]; simp
              | succ m => rw [hs]; simp only [h, Nat.add_lt_add_iff_right, Nat.add_sub_add_right]

theorem runM_enough (xs : List Ins) (cs : List Int) (am : RV) (hl : lastOk xs = true) (hv : allV xs = true) : ∀ (f : Nat) (s : MS), OkM xs s → (xs.length : Int) - s.at_ ≤ f → runM xs cs am f s ≠ .error 170 := by
  intro f
  induction f with
  | zero =>
    intro s ho hf
    cases hd : s.done with
    | true => rw [runM_done _ hd]; simp
    | false => have := ho.high hd; omega
  | succ f ih =>
    intro s ho hf
    cases hd : s.done with
    | true => rw [runM_done _ hd]; simp
    | false =>
      have h1 := ho.high hd
      have h2 := ho.low
      obtain ⟨i, hi⟩ := Int.eq_ofNat_of_zero_le h2
      have hil : i < xs.length := by omega
      rw [runM_step f hd i hil hi]
      cases hst : stepM cs am xs[i] { s with at_ := s.at_ + 1 } with
      | error e => simp only; intro h; cases h; exact (stepM_err hst).2 rfl
      | ok s' =>
        obtain ⟨o1, o2⟩ := step_ok hl hv ho hd i hil hi hst
        exact ih s' o1 (by omega)

/-- a run with as much fuel as there are instructions, with more and with less -/
theorem fuel_law (xs : List Ins) (cs : List Int) (am : RV) :
    (∃ e, e ≠ 0 ∧ e ≠ 170 ∧ ∀ m : Nat, runV xs cs am ((xs.length + m : Nat) : Int) = .error e) ∨
    ∃ s k, 0 < k ∧ k ≤ xs.length ∧ ∀ m : Nat, runV xs cs am m = if m < k then .error 170 else .ok (s, m - k) := by
  unfold runV
  by_cases h1 : checkM xs = 0
  case neg =>
    refine .inl ⟨checkM xs, h1, ?_, fun m => by rw [if_pos h1]⟩
    unfold checkM
    split <;> decide
  have hla : (lastOk xs && allV xs) = true := by
    unfold checkM at h1
    split at h1
    · assumption
    · exact absurd h1 (by decide)
  simp only [Bool.and_eq_true] at hla
  have hne : xs ≠ [] := by intro h; subst h; simp [lastOk] at hla
  simp only [if_neg (show ¬ checkM xs ≠ 0 by simpa using h1)]
  by_cases h2 : am.ok = false
  · exact .inl ⟨70, by decide, by decide, fun m => by rw [if_pos h2]⟩
  simp only [if_neg h2]
  by_cases h3 : am.neg = true ∨ cs = []
  · refine .inl ⟨1, by decide, by decide, fun m => ?_⟩
    rw [if_pos]
    rcases h3 with h | h
    · exact .inl h
    · exact .inr (.inl h)
  have h4 : ∀ m : Nat, ¬ (am.neg = true ∨ cs = [] ∨ (m : Int) < 0) := fun m h => by
    rcases h with h | h | h
    · exact h3 (.inl h)
    · exact h3 (.inr h)
    · omega
  simp only [h4, if_false, Int.toNat_natCast]
  have hn := runM_enough xs cs am hla.1 hla.2 xs.length startM (start_ok hne) (by show (xs.length : Int) - 0 ≤ _; omega)
  rcases runM_shape xs cs am xs.length startM with h | ⟨k, hk, hk0, h⟩
  · exact absurd h hn
  have hk0 := hk0 rfl
  rcases h with ⟨e, he0, he, h⟩ | ⟨s', h⟩
  · exact .inl ⟨e, he0, he, fun m => by rw [h, if_neg (by omega)]⟩
  · exact .inr ⟨s', k, hk0, hk, h⟩

/-- a program sees of the choices what it tests -/
theorem stepM_sees {cs cs' : List Int} (am : RV) (x : Ins) (s : MS) (h : x.op = 1 → holdsM cs x = holdsM cs' x) : stepM cs am x s = stepM cs' am x s := by
  unfold stepM
  split
  · rename_i h1; rw [h h1]
  · rfl
theorem runM_sees {xs : List Ins} {cs cs' : List Int} (am : RV) (h : ∀ x ∈ xs, x.op = 1 → holdsM cs x = holdsM cs' x) : ∀ (f : Nat) (s : MS), runM xs cs am f s = runM xs cs' am f s := by
  intro f
  induction f with
  | zero => intro s; rfl
  | succ f ih =>
    intro s
    simp only [runM]
    split
    · rfl
    · split
      · rfl
      · rename_i x hx
        have hm : x ∈ xs := List.mem_of_getElem? hx
        rw [stepM_sees am x _ (h x hm)]
        split
        · rfl
        · exact ih _
theorem allV_mem : ∀ (xs : List Ins), allV xs = true → ∀ x ∈ xs, ∃ k : Int, validI x k = true
  | [], _, x, h => by simp at h
  | y :: t, hv, x, h => by
    simp only [allV, Bool.and_eq_true] at hv
    rcases List.mem_cons.1 h with rfl | h
    · exact ⟨_, hv.1⟩
    · exact allV_mem t hv.2 x h
/-- days that all tests treat alike, and choices that are not tested -/
theorem day_law (xs : List Ins) (c : List Int) (am : RV) (day other fu : Int) (l : List Int) (hd : ∀ x ∈ xs, x.op = 1 → (x.a < 0 → decide (x.b ≤ day) = decide (x.b ≤ other)) ∧ x.a < c.length) :
    runV xs (c ++ [day]) am fu = runV xs (c ++ l ++ [other]) am fu := by
  unfold runV
  by_cases h1 : checkM xs = 0
  case neg => rw [if_pos h1, if_pos h1]
  have hla : (lastOk xs && allV xs) = true := by
    unfold checkM at h1
    split at h1
    · assumption
    · exact absurd h1 (by decide)
  simp only [Bool.and_eq_true] at hla
  have hr := runM_sees (cs := c ++ [day]) (cs' := c ++ l ++ [other]) am (xs := xs) (fun x hx hop => by
    obtain ⟨h2, h3⟩ := hd x hx hop
    obtain ⟨k, hk⟩ := allV_mem xs hla.2 x hx
    unfold validI at hk
    rw [if_pos hop] at hk
    simp only [inB, Bool.and_eq_true, decide_eq_true_eq] at hk
    have e1 : ∀ (q : List Int) (z : Int), (q ++ [z]).getD ((q ++ [z]).length - 1) 0 = z := fun q z => by simp
    unfold holdsM
    rw [e1, e1]
    by_cases ha1 : x.a = -1
    · rw [if_pos ha1, if_pos ha1]
      exact h2 (by omega)
    rw [if_neg ha1, if_neg ha1]
    by_cases ha2 : x.a = -2
    · rw [if_pos ha2, if_pos ha2]
      have h4 := h2 (by omega)
      by_cases hb : x.b ≤ day
      · rw [decide_eq_true hb] at h4
        have := of_decide_eq_true h4.symm
        rw [decide_eq_false (by omega), decide_eq_false (by omega)]
      · rw [decide_eq_false hb] at h4
        have := of_decide_eq_false h4.symm
        rw [decide_eq_true (by omega), decide_eq_true (by omega)]
    rw [if_neg ha2, if_neg ha2]
    obtain ⟨j, hj⟩ : ∃ j : Nat, x.a = j := ⟨x.a.toNat, by omega⟩
    rw [hj] at h3 ⊢
    have hjc : j < c.length := by omega
    simp only [List.length_append, List.length_cons, List.length_nil, Int.toNat_natCast]
    rw [decide_eq_true (show (j : Int) < ((c.length + (0 + 1) : Nat) : Int) - 1 by omega), decide_eq_true (show (j : Int) < ((c.length + l.length + (0 + 1) : Nat) : Int) - 1 by omega)]
    congr 2
    rw [List.getD_eq_getElem?_getD, List.getD_eq_getElem?_getD, List.append_assoc, List.getElem?_append_left hjc, List.getElem?_append_left hjc]) fu.toNat startM
  rw [hr]
  simp
end Go.Proofs.YteggbpaljmopoaaGreat
/- Plain laws on runs: sums of amounts. -/
namespace Go.Proofs.YteggbpaljmopoaaGreat
open Go.RowKit BF

/-- bounds of a number's parts, in bytes -/
def szq (k d : Nat) (q : Rat) : Prop := q.num.natAbs < 256 ^ k ∧ q.den < 256 ^ d
theorem szq_of_mkQ {s : Bool} {n m k d : Nat} (hm : 0 < m) (h1 : n < 256 ^ k) (h2 : m < 256 ^ d) : szq k d (mkQ s n m) := by
  unfold szq
  rw [mkQ_natAbs _ _ _ hm, mkQ_den _ _ _ hm]
  exact ⟨Nat.lt_of_le_of_lt (Nat.div_le_self _ _) h1, Nat.lt_of_le_of_lt (Nat.div_le_self _ _) h2⟩
theorem mul_pow_lt {a b k l : Nat} (h1 : a < 256 ^ k) (h2 : b < 256 ^ l) : a * b < 256 ^ (k + l) := by
  rw [Nat.pow_add]
  exact Nat.mul_lt_mul'' h1 h2
theorem szq_mul {a b : Rat} {k d l e : Nat} (ha : szq k d a) (hb : szq l e b) : szq (k + l) (d + e) (a * b) := by
  rw [← mkQ_self a, ← mkQ_self b, mul_mkQ]
  exact szq_of_mkQ (Nat.mul_pos (den_pos a) (den_pos b)) (mul_pow_lt ha.1 hb.1) (mul_pow_lt ha.2 hb.2)
theorem szq_inv {a : Rat} {k d : Nat} (h0 : a ≠ 0) (ha : szq k d a) : szq d k a⁻¹ := by
  rw [← mkQ_inv a h0]
  have : a.num.natAbs ≠ 0 := fun h => h0 (Rat.num_eq_zero.1 (by omega))
  exact szq_of_mkQ (by omega) ha.2 ha.1
theorem saddN_le (s t : Bool) (x y : Nat) : saddN s x t y ≤ x + y := by
  unfold saddN
  split
  · exact Nat.le_refl _
  · split <;> omega
theorem szq_add {a b : Rat} {k d l e : Nat} (ha : szq k d a) (hb : szq l e b) (m : Nat) (h1 : k + e ≤ m) (h2 : l + d ≤ m) : szq (m + 1) (d + e) (a + b) := by
  rw [← mkQ_self a, ← mkQ_self b, add_mkQ _ _ _ _ (den_pos a) (den_pos b)]
  refine szq_of_mkQ (Nat.mul_pos (den_pos a) (den_pos b)) (Nat.lt_of_le_of_lt (saddN_le _ _ _ _) ?_) (mul_pow_lt ha.2 hb.2)
  have g1 : a.num.natAbs * b.den < 256 ^ m := Nat.lt_of_lt_of_le (mul_pow_lt ha.1 hb.2) (Nat.pow_le_pow_right (by decide) h1)
  have g2 : b.num.natAbs * a.den < 256 ^ m := Nat.lt_of_lt_of_le (mul_pow_lt hb.1 ha.2) (Nat.pow_le_pow_right (by decide) h2)
  rw [Nat.pow_succ]
  omega
theorem small_of {n k : Nat} (h : n < 256 ^ k) (hk : k ≤ 256) : small n := small_lt.2 (Nat.lt_of_lt_of_le h (Nat.pow_le_pow_right (by decide) hk))
theorem okQ_of_szq {q : Rat} {k d : Nat} (h : szq k d q) (hk : k ≤ 256) (hd : d ≤ 256) : okQ q := ⟨small_of h.1 hk, small_of h.2 hd⟩
theorem mulFits_of {a b : Rat} {k d l e : Nat} (ha : szq k d a) (hb : szq l e b) (h1 : k + l ≤ 256) (h2 : d + e ≤ 256) : mulFits a b :=
  ⟨small_of (mul_pow_lt ha.1 hb.1) h1, small_of (mul_pow_lt ha.2 hb.2) h2⟩
theorem divFits_of {a b : Rat} {k d l e : Nat} (ha : szq k d a) (hb : szq l e b) (h1 : k + e ≤ 256) (h2 : d + l ≤ 256) : divFits a b :=
  ⟨small_of (mul_pow_lt ha.1 hb.2) h1, small_of (mul_pow_lt ha.2 hb.1) h2⟩
theorem addFits_of {a b : Rat} {k d l e : Nat} (ha : szq k d a) (hb : szq l e b) (m : Nat) (h1 : k + e ≤ m) (h2 : l + d ≤ m) (h3 : d + e ≤ 256) (hm : m + 1 ≤ 256) : addFits a b := by
  have g1 : a.num.natAbs * b.den < 256 ^ m := Nat.lt_of_lt_of_le (mul_pow_lt ha.1 hb.2) (Nat.pow_le_pow_right (by decide) h1)
  have g2 : b.num.natAbs * a.den < 256 ^ m := Nat.lt_of_lt_of_le (mul_pow_lt hb.1 ha.2) (Nat.pow_le_pow_right (by decide) h2)
  refine ⟨small_of (mul_pow_lt ha.2 hb.2) h3, small_of g1 (by omega), small_of g2 (by omega), fun _ => small_of (k := m + 1) ?_ hm⟩
  rw [Nat.pow_succ]
  omega
/-- a ratio with few letters -/
def RV.few (r : RV) : Prop := r.n.size ≤ 40 ∧ r.d.size ≤ 40
theorem szq_few {r : RV} (h : r.ok = true) (hf : r.few) : szq 40 40 r.q := by
  have e := (RV.ok_is h).1
  unfold RV.few at hf
  rw [e] at hf
  exact ⟨(enc_length_le_iff _ 40).1 hf.1, (enc_length_le_iff _ 40).1 hf.2⟩
theorem few_fits {r : RV} (h : r.few) : r.fits := ⟨Nat.le_trans h.1 (by decide), Nat.le_trans h.2 (by decide)⟩
theorem q_nonneg {r : RV} (h : r.ok = true) (hn : r.neg = false) : 0 ≤ r.q := by
  have e := (RV.ok_is h).1
  rw [e] at hn
  have : decide (r.q < 0) = false := hn
  exact Rat.not_lt.1 (of_decide_eq_false this)
theorem inv_nonneg {a : Rat} (h : 0 ≤ a) : 0 ≤ a⁻¹ := by
  by_cases h0 : a = 0
  · subst h0; simp
  · have : 0 < a := by
      rcases Rat.le_iff_lt_or_eq.1 h with h | h
      · exact h
      · exact absurd h.symm h0
    exact Rat.le_of_lt (Rat.inv_pos.2 this)

def All3 {α : Type} (P : α → α → α → Prop) (l m n : List α) : Prop :=
  l.length = m.length ∧ l.length = n.length ∧ ∀ (i : Nat) (u v y : α), l[i]? = some u → m[i]? = some v → n[i]? = some y → P u v y
theorem All3.nil {α : Type} {P : α → α → α → Prop} : All3 P [] [] [] := ⟨rfl, rfl, fun i u v y h => by simp at h⟩
theorem All3.snoc {α : Type} {P : α → α → α → Prop} {l m n : List α} (h : All3 P l m n) {u v y : α} (hp : P u v y) : All3 P (l ++ [u]) (m ++ [v]) (n ++ [y]) := by
  obtain ⟨h1, h2, h3⟩ := h
  refine ⟨by simp [h1], by simp [h2], fun i a b c ha hb hc => ?_⟩
  by_cases hi : i < l.length
  · rw [List.getElem?_append_left hi] at ha
    rw [List.getElem?_append_left (by omega)] at hb hc
    exact h3 i a b c ha hb hc
  · have hil : i < (l ++ [u]).length := by
      rcases Nat.lt_or_ge i (l ++ [u]).length with h | h
      · exact h
      · rw [List.getElem?_eq_none h] at ha; cases ha
    simp only [List.length_append, List.length_cons, List.length_nil] at hil
    have : i = l.length := by omega
    subst this
    rw [List.getElem?_append_right (Nat.le_refl _)] at ha
    rw [h1, List.getElem?_append_right (Nat.le_refl _)] at hb
    rw [h2, List.getElem?_append_right (Nat.le_refl _)] at hc
    simp at ha hb hc
    subst ha; subst hb; subst hc
    exact hp

def UseSum (u v y : UseV) : Prop := u.item = v.item ∧ u.item = y.item ∧ u.out = y.out ∧ u.back = y.back ∧ ∃ p q, u.amount = ofQ p ∧ v.amount = ofQ q ∧ y.amount = ofQ (p + q) ∧ szq 120 120 p ∧ szq 120 120 q
def WorkSum (u v y : WorkV) : Prop := u.machine = y.machine ∧ y.slots ≤ u.slots + v.slots ∧ u.slots ≤ y.slots ∧ v.slots ≤ y.slots ∧ 0 ≤ u.slots ∧ u.slots ≤ 100000000000000 ∧ 0 ≤ v.slots ∧ v.slots ≤ 100000000000000
structure SumR (a b c : MS) : Prop where
  a1 : a.at_ = b.at_
  a2 : a.at_ = c.at_
  d1 : a.done = b.done
  d2 : a.done = c.done
  l1 : a.lead = b.lead
  l2 : a.lead = c.lead
  q : ∃ p q, a.b = ofQ p ∧ b.b = ofQ q ∧ c.b = ofQ (p + q) ∧ szq 80 80 p ∧ szq 80 80 q ∧ szq 121 120 (p + q) ∧ 0 ≤ p ∧ 0 ≤ q
  us : All3 UseSum a.us b.us c.us
  ws : All3 WorkSum a.ws b.ws c.ws

theorem ceilQ_eq (q : Rat) : ceilQ q = q.ceil := (Rat.ceil_eq_neg_floor_neg q).symm
theorem ceil_add_le (p q : Rat) : ceilQ (p + q) ≤ ceilQ p + ceilQ q := by
  rw [ceilQ_eq, ceilQ_eq, ceilQ_eq, Rat.ceil_le_iff, Rat.intCast_add]
  exact Rat.le_trans (Rat.add_le_add_right.2 Rat.le_ceil) (Rat.add_le_add_left.2 Rat.le_ceil)
theorem ceil_mono {p q : Rat} (h : p ≤ q) : ceilQ p ≤ ceilQ q := by
  rw [ceilQ_eq, ceilQ_eq, Rat.ceil_le_iff]
  exact Rat.le_trans h Rat.le_ceil
theorem ceil_nonneg {p : Rat} (h : 0 ≤ p) : 0 ≤ ceilQ p := by
  have := ceil_mono h
  have h0 : ceilQ 0 = 0 := by decide
  rwa [h0] at this
theorem le_add_r {p q : Rat} (h : 0 ≤ q) : p ≤ p + q := by
  have := (Rat.add_le_add_left (c := p)).2 h
  rwa [Rat.add_zero] at this
theorem le_add_l {p q : Rat} (h : 0 ≤ p) : q ≤ p + q := by
  have := (Rat.add_le_add_right (c := q)).2 h
  rwa [Rat.zero_add] at this
theorem mulR_q {r : RV} {p : Rat} (hr : r.ok = true) (hp : okQ p) : mulR r (ofQ p) = if mulFits r.q p then (ofQ (r.q * p), 0) else (RV.zero, 2) := by
  unfold mulR
  rw [hr, ofQ_ok hp, ofQ_q]; rfl
theorem ceilR_q {p : Rat} (hp : okQ p) : ceilR (ofQ p) = within (ceilQ p) := by
  unfold ceilR
  rw [if_pos (ofQ_ok hp), ofQ_q]
theorem divR_q {r : RV} {p : Rat} (hr : r.ok = true) (hp : okQ p) : divR (ofQ p) r = if r.q = 0 then (RV.zero, 71) else if divFits p r.q then (ofQ (p / r.q), 0) else (RV.zero, 2) := by
  unfold divR
  rw [hr, ofQ_ok hp, ofQ_q]; rfl
theorem mulR_ok {a b : RV} (h : (mulR a b).2 = 0) : a.ok = true := by
  unfold mulR at h
  split at h
  · rename_i h1; simp at h1; exact h1.1
  · cases h
theorem within_ok {n : Int} (h : (within n).2 = 0) : (within n).1 = n ∧ n.natAbs ≤ 4611686018427387904 := by
  unfold within at *
  split at h
  · rename_i h1; rw [if_pos h1]; exact ⟨rfl, h1⟩
  · cases h

theorem sum_step {cs : List Int} {A B : Rat} (hA : szq 40 40 A) (hB : szq 40 40 B) (hA0 : 0 ≤ A) (hB0 : 0 ≤ B) {x : Ins} {k : Int} (hv : validI x k = true) (hx : x.r.few) {a b c a' b' : MS} (h : SumR a b c)
    (ha : stepM cs (ofQ A) x a = .ok a') (hb : stepM cs (ofQ B) x b = .ok b') : (∃ c', stepM cs (ofQ (A + B)) x c = .ok c' ∧ SumR a' b' c') ∨ stepM cs (ofQ (A + B)) x c = .error 2 := by
  obtain ⟨a1, a2, d1, d2, l1, l2, ⟨p, q, hp, hq, hpq, zp, zq, zpq, p0, q0⟩, us, ws⟩ := h
  have okA : okQ A := okQ_of_szq hA (by decide) (by decide)
  have okB : okQ B := okQ_of_szq hB (by decide) (by decide)
  have zAB : szq 81 80 (A + B) := szq_add hA hB 80 (by decide) (by decide)
  have okAB : okQ (A + B) := okQ_of_szq zAB (by decide) (by decide)
  have okp : okQ p := okQ_of_szq zp (by decide) (by decide)
  have okq : okQ q := okQ_of_szq zq (by decide) (by decide)
  have okpq : okQ (p + q) := okQ_of_szq zpq (by decide) (by decide)
  unfold validI at hv
  unfold stepM at ha hb ⊢
  by_cases o1 : x.op = 1
  · rw [if_pos o1] at ha hb ⊢
    cases ha; cases hb
    refine .inl ⟨_, rfl, ?_⟩
    refine ⟨?_, ?_, d1, d2, l1, l2, ⟨p, q, hp, hq, hpq, zp, zq, zpq, p0, q0⟩, us, ws⟩
    · dsimp only; rw [a1]
    · dsimp only; rw [a2]
  rw [if_neg o1] at ha hb hv ⊢
  by_cases o2 : x.op = 2
  · rw [if_pos o2] at ha hb ⊢
    cases ha; cases hb
    exact .inl ⟨_, rfl, ⟨by dsimp only; rw [a1], by dsimp only; rw [a2], d1, d2, l1, l2, ⟨p, q, hp, hq, hpq, zp, zq, zpq, p0, q0⟩, us, ws⟩⟩
  rw [if_neg o2] at ha hb hv ⊢
  by_cases o3 : x.op = 3
  · rw [if_pos o3] at ha hb hv ⊢
    simp only [Bool.and_eq_true, RV.pos, Bool.not_eq_true'] at hv
    have hr : x.r.ok = true := hv.1.1.1.1
    have hn : x.r.neg = false := hv.1.1.1.2
    have zr := szq_few hr hx
    have r0 := q_nonneg hr hn
    rw [divR_q hr okA] at ha
    rw [divR_q hr okB] at hb
    rw [divR_q hr okAB]
    by_cases hz : x.r.q = 0
    · rw [if_pos hz] at ha; cases ha
    rw [if_neg hz] at ha hb ⊢
    rw [if_pos (divFits_of hA zr (by decide) (by decide))] at ha
    rw [if_pos (divFits_of hB zr (by decide) (by decide))] at hb
    rw [if_pos (divFits_of zAB zr (by decide) (by decide))]
    cases ha; cases hb
    refine .inl ⟨_, rfl, ⟨a1, a2, d1, d2, rfl, rfl, ⟨A / x.r.q, B / x.r.q, rfl, rfl, ?_, ?_, ?_, ?_, ?_, ?_⟩, us, ws⟩⟩
    · dsimp only; rw [Rat.div_def, Rat.div_def, Rat.div_def, Rat.add_mul]
    · exact szq_mul hA (szq_inv hz zr)
    · exact szq_mul hB (szq_inv hz zr)
    · rw [Rat.div_def, Rat.div_def, ← Rat.add_mul]; exact szq_mul zAB (szq_inv hz zr)
    · exact Rat.mul_nonneg hA0 (inv_nonneg r0)
    · exact Rat.mul_nonneg hB0 (inv_nonneg r0)
  rw [if_neg o3] at ha hb hv ⊢
  by_cases o4 : x.op = 4 ∨ x.op = 5
  · rw [if_pos o4] at ha hb ⊢
    have hr : x.r.ok = true := by
      split at ha
      · rename_i h; exact mulR_ok h
      · cases ha
    have zr := szq_few hr hx
    rw [hp, mulR_q hr okp, if_pos (mulFits_of zr zp (by decide) (by decide))] at ha
    rw [hq, mulR_q hr okq, if_pos (mulFits_of zr zq (by decide) (by decide))] at hb
    rw [hpq, mulR_q hr okpq, if_pos (mulFits_of zr zpq (by decide) (by decide))]
    cases ha; cases hb
    refine .inl ⟨_, rfl, ⟨a1, a2, d1, d2, l1, l2, ⟨p, q, by first | exact hp | rfl, by first | exact hq | rfl, by first | exact hpq | rfl, zp, zq, zpq, p0, q0⟩, us.snoc ⟨rfl, rfl, rfl, rfl, _, _, rfl, rfl, ?_, szq_mul zr zp, szq_mul zr zq⟩, ws⟩⟩
    dsimp only
    rw [Rat.mul_add]
  rw [if_neg o4] at ha hb ⊢
  by_cases o6 : x.op = 6
  · rw [if_neg (fun h => o4 (.inl h)), if_neg (fun h => o4 (.inr h)), if_pos o6] at hv
    simp only [inB, Bool.and_eq_true, decide_eq_true_eq] at hv
    rw [if_pos o6] at ha hb ⊢
    rw [hp, ceilR_q okp] at ha
    rw [hq, ceilR_q okq] at hb
    rw [hpq, ceilR_q okpq]
    split at ha
    case isFalse => cases ha
    rename_i e1
    split at hb
    case isFalse => cases hb
    rename_i e2
    rw [(within_ok e1).1] at ha
    rw [(within_ok e2).1] at hb
    split at ha
    · cases ha
    rename_i g1
    split at hb
    · cases hb
    rename_i g2
    cases ha; cases hb
    by_cases e3 : (within (ceilQ (p + q))).2 = 0
    case neg =>
      rw [if_neg e3]
      refine .inr ?_
      have : (within (ceilQ (p + q))).2 = 2 := by
        unfold within at *
        split
        · rename_i h; rw [if_pos h] at e3; exact absurd rfl e3
        · rfl
      rw [this]
    rw [if_pos e3, (within_ok e3).1]
    by_cases g3 : 1099511627776 < ceilQ (p + q)
    · rw [if_pos g3]; exact .inr rfl
    rw [if_neg g3]
    have k1 := ceil_nonneg p0
    have k2 := ceil_nonneg q0
    have k3 := ceil_add_le p q
    have k4 := ceil_mono (le_add_r (p := p) q0)
    have k5 := ceil_mono (le_add_l (q := q) p0)
    obtain ⟨⟨v1, v2⟩, v3, v4⟩ := hv
    generalize hP : ceilQ p = P at *
    generalize hQ : ceilQ q = Q at *
    generalize hS : ceilQ (p + q) = S at *
    have bnd : ∀ n : Int, 0 ≤ n → n ≤ 1099511627776 → 0 ≤ x.b * n ∧ x.b * n ≤ 100000000000000 := fun n h0 h1 => by
      have m1 := Int.mul_le_mul v4 h1 h0 (by decide)
      exact ⟨Int.mul_nonneg v3 h0, by omega⟩
    have b1 := bnd P k1 (by omega)
    have b2 := bnd Q k2 (by omega)
    have b3 := bnd S (by omega) (by omega)
    have w1 : IntKind.i64.wrap (x.b * P) = x.b * P := Go.IntWalk.i64_in _ (by omega)
    have w2 : IntKind.i64.wrap (x.b * Q) = x.b * Q := Go.IntWalk.i64_in _ (by omega)
    have w3 : IntKind.i64.wrap (x.b * S) = x.b * S := Go.IntWalk.i64_in _ (by omega)
    refine .inl ⟨_, rfl, ⟨a1, a2, d1, d2, l1, l2, ⟨p, q, by first | exact hp | rfl, by first | exact hq | rfl, by first | exact hpq | rfl, zp, zq, zpq, p0, q0⟩, us, ws.snoc ⟨rfl, ?_⟩⟩⟩
    dsimp only
    rw [w1, w2, w3]
    refine ⟨?_, Int.mul_le_mul_of_nonneg_left k4 v3, Int.mul_le_mul_of_nonneg_left k5 v3, b1.1, b1.2, b2.1, b2.2⟩
    rw [← Int.mul_add]
    exact Int.mul_le_mul_of_nonneg_left k3 v3
  rw [if_neg o6] at ha hb ⊢
  by_cases o7 : x.op = 7
  · rw [if_pos o7] at ha hb ⊢
    cases ha; cases hb
    exact .inl ⟨_, rfl, ⟨a1, a2, rfl, rfl, l1, l2, ⟨p, q, hp, hq, hpq, zp, zq, zpq, p0, q0⟩, us, ws⟩⟩
  · rw [if_neg o7] at ha; cases ha

theorem SumR.ahead {a b c : MS} (h : SumR a b c) : SumR { a with at_ := a.at_ + 1 } { b with at_ := b.at_ + 1 } { c with at_ := c.at_ + 1 } :=
  ⟨by have := h.a1; dsimp only; omega, by have := h.a2; dsimp only; omega, h.d1, h.d2, h.l1, h.l2, h.q, h.us, h.ws⟩
theorem runM_some {xs : List Ins} {cs : List Int} {am : RV} {s : MS} {x : Ins} (f : Nat) (hd : s.done = false) (hx : xs[s.at_.toNat]? = some x) :
    runM xs cs am (f + 1) s = match stepM cs am x { s with at_ := s.at_ + 1 } with
      | .error e => .error e
      | .ok s' => runM xs cs am f s' := by
  simp only [runM, hd, Bool.false_eq_true, if_false, hx]
  rfl
theorem sum_runM {xs : List Ins} {cs : List Int} {A B : Rat} (hA : szq 40 40 A) (hB : szq 40 40 B) (hA0 : 0 ≤ A) (hB0 : 0 ≤ B) (hv : allV xs = true) (hx : ∀ x ∈ xs, x.r.few) :
    ∀ (f : Nat) (a b c a' b' : MS) (l m : Nat), SumR a b c → runM xs cs (ofQ A) f a = .ok (a', l) → runM xs cs (ofQ B) f b = .ok (b', m) →
      (∃ c', runM xs cs (ofQ (A + B)) f c = .ok (c', l) ∧ SumR a' b' c') ∨ runM xs cs (ofQ (A + B)) f c = .error 2 := by
  intro f
  induction f with
  | zero =>
    intro a b c a' b' l m h ha hb
    cases hd : a.done with
    | false => rw [runM_zero hd] at ha; cases ha
    | true =>
      rw [runM_done _ hd] at ha
      rw [runM_done _ (h.d1 ▸ hd)] at hb
      cases ha; cases hb
      exact .inl ⟨c, runM_done _ (h.d2 ▸ hd), h⟩
  | succ f ih =>
    intro a b c a' b' l m h ha hb
    cases hd : a.done with
    | true =>
      rw [runM_done _ hd] at ha
      rw [runM_done _ (h.d1 ▸ hd)] at hb
      cases ha; cases hb
      exact .inl ⟨c, runM_done _ (h.d2 ▸ hd), h⟩
    | false =>
      have hdb : b.done = false := h.d1 ▸ hd
      have hdc : c.done = false := h.d2 ▸ hd
      cases hxx : xs[a.at_.toNat]? with
      | none => simp only [runM, hd, Bool.false_eq_true, if_false, hxx] at ha; cases ha
      | some x =>
        rw [runM_some f hd hxx] at ha
        rw [runM_some f hdb (by rw [← h.a1]; exact hxx)] at hb
        rw [runM_some f hdc (by rw [← h.a2]; exact hxx)]
        have hm : x ∈ xs := List.mem_of_getElem? hxx
        obtain ⟨k, hk⟩ := allV_mem xs hv x hm
        cases sa : stepM cs (ofQ A) x { a with at_ := a.at_ + 1 } with
        | error e => rw [sa] at ha; cases ha
        | ok a1 =>
          rw [sa] at ha
          dsimp only at ha
          cases sb : stepM cs (ofQ B) x { b with at_ := b.at_ + 1 } with
          | error e => rw [sb] at hb; cases hb
          | ok b1 =>
            rw [sb] at hb
            dsimp only at hb
            rcases sum_step hA hB hA0 hB0 hk (hx x hm) h.ahead sa sb with ⟨c1, hc, hr⟩ | hc
            · rw [hc]
              exact ih a1 b1 c1 a' b' l m hr ha hb
            · rw [hc]
              exact .inr rfl

theorem startM_q : (startM.b) = ofQ 0 := by
  show ofQ (newQ 0 1) = ofQ 0
  rfl
theorem szq_zero {k d : Nat} (hd : 0 < d) : szq k d 0 := ⟨Nat.pos_of_ne_zero (by simp), Nat.one_lt_pow (by omega) (by decide)⟩
theorem sum_start : SumR startM startM startM := by
  refine ⟨rfl, rfl, rfl, rfl, rfl, rfl, ⟨0, 0, startM_q, startM_q, ?_, szq_zero (by decide), szq_zero (by decide), ?_, Rat.le_refl, Rat.le_refl⟩, All3.nil, All3.nil⟩
  · rw [Rat.add_zero]; exact startM_q
  · rw [Rat.add_zero]; exact szq_zero (by decide)
/-- the uses of a sum -/
theorem sum_law (xs : List Ins) (cs : List Int) (a b : RV) (ha : a.few) (hb : b.few) (hx : ∀ x ∈ xs, x.r.few) {s t : MS} {l m : Nat} {fu : Int} (h1 : runV xs cs a fu = .ok (s, l)) (h2 : runV xs cs b fu = .ok (t, m)) :
    (addR a b).2 = 0 ∧ ((∃ u, runV xs cs (addR a b).1 fu = .ok (u, l) ∧ SumR s t u) ∨ runV xs cs (addR a b).1 fu = .error 2) := by
  unfold runV at h1 h2 ⊢
  by_cases c1 : checkM xs = 0
  case neg => rw [if_pos c1] at h1; cases h1
  rw [if_neg (by simpa using c1)] at h1 h2 ⊢
  by_cases c2 : a.ok = false
  · rw [if_pos c2] at h1; cases h1
  by_cases c3 : b.ok = false
  · rw [if_pos c3] at h2; cases h2
  rw [if_neg c2] at h1
  rw [if_neg c3] at h2
  have c2' : a.ok = true := by simpa using c2
  have c3' : b.ok = true := by simpa using c3
  by_cases c4 : a.neg = true ∨ cs = [] ∨ fu < 0
  · rw [if_pos c4] at h1; cases h1
  by_cases c5 : b.neg = true ∨ cs = [] ∨ fu < 0
  · rw [if_pos c5] at h2; cases h2
  rw [if_neg c4] at h1
  rw [if_neg c5] at h2
  have an : a.neg = false := by
    cases h : a.neg
    · rfl
    · exact absurd (.inl h) c4
  have bn : b.neg = false := by
    cases h : b.neg
    · rfl
    · exact absurd (.inl h) c5
  have za := szq_few c2' ha
  have zb := szq_few c3' hb
  have zs : szq 81 80 (a.q + b.q) := szq_add za zb 80 (by decide) (by decide)
  have oks := okQ_of_szq zs (by decide) (by decide)
  have a0 := q_nonneg c2' an
  have b0 := q_nonneg c3' bn
  have he : addR a b = (ofQ (a.q + b.q), 0) := by
    unfold addR
    rw [c2', c3', if_pos (show (true && true) = true from rfl), if_pos (addFits_of za zb 80 (by decide) (by decide) (by decide) (by decide))]
  rw [he]
  refine ⟨rfl, ?_⟩
  dsimp only
  rw [if_neg (by rw [ofQ_ok oks]; simp)]
  have hng : (ofQ (a.q + b.q)).neg = false := decide_eq_false (Rat.not_lt.2 (Rat.add_nonneg a0 b0))
  rw [if_neg (fun h => by rcases h with h | h; (rw [hng] at h; cases h); exact c4 (.inr h))]
  have hla : (lastOk xs && allV xs) = true := by
    unfold checkM at c1
    split at c1
    · assumption
    · exact absurd c1 (by decide)
  simp only [Bool.and_eq_true] at hla
  rw [(RV.ok_is c2').1] at h1
  rw [(RV.ok_is c3').1] at h2
  exact sum_runM za zb a0 b0 hla.2 hx _ _ _ _ _ _ _ _ sum_start h1 h2
end Go.Proofs.YteggbpaljmopoaaGreat
