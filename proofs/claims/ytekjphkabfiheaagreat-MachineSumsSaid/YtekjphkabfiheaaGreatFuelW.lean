/- The law MachineFuel: its walk. Conditions: those that each theorem states. -/
import Derived.Test.YtekjphkabfiheaaGreatRefsA
import Derived.Test.YtekjphkabfiheaaGreatMachE
set_option linter.unusedVariables false
set_option linter.unusedSimpArgs false
/- MachineFuel: the walk. -/
namespace Go.Proofs.YtekjphkabfiheaaGreat
open Go.RowKit BF

theorem fewC_len {xs : List Ins} (h : fewC xs = true) : xs.length ≤ 60 := by
  unfold fewC at h
  simp at h
  exact h.2
def FewPost (w : World) (b : Bool) (e : Ending) (w' : World) : Prop := e = .returned (.bool b) ∧ Below w.heap.size w w'
set_option maxRecDepth 100000 in
set_option maxHeartbeats 2000000 in
theorem fuel_few (b1 b2 : Bool) (m : Nat) (hm : m ≤ maxLen) (hb : b1 = false ∨ b1 = true ∧ b2 = false ∨ b1 = true ∧ b2 = true ∧ 12 < m) (cv : Value) (p : Option Addr) (cap : Nat) (n0 : Bool) (n1 n2 : ByteArray) (more : Int) (w : World)
    (HS : Hid (∀ w : World, Calls Tryz.prog 28 #[] w fun e w' => e = .returned (.bool true) ∧ Below w.heap.size w w'))
    (HF : Hid (∀ w', Below w.heap.size w w' → Calls Tryz.prog 29 #[cv] w' fun e w'' => e = .returned (.bool b1) ∧ Below w'.heap.size w' w''))
    (HR : Hid (∀ w : World, Calls Tryz.prog 30 #[.agg #[.bool n0, .string n1, .string n2]] w fun e w' => e = .returned (.bool b2) ∧ Below w.heap.size w w')) :
    Calls Tryz.prog 9 #[cv, .slice p m cap, .agg #[.bool n0, .string n1, .string n2], .int .u8 more] w fun e w' => e = .returned (.bool true) ∧ Below w.heap.size w w' := by
  unfold maxLen at hm
  have HA : Hid (Blk (w.alloc (.cells #[.bool n0, .string n1, .string n2] 48)) w.heap.size 48 #[.bool n0, .string n1, .string n2]) := Blk.new w _ _
  have HW : Hid (Below w.heap.size w (w.alloc (.cells #[.bool n0, .string n1, .string n2] 48))) := (Below.refl _ w).alloc (Nat.le_refl _) _
  go_enter Tryz.func9, Tryz.ntmps9
  go_wp2_with (fail)
  refine (HS.out _).mono ?_
  rintro e w1 ⟨rfl, hb1⟩
  have HA1 := Lib.hid (HA.out.under hb1)
  have HW1 := Lib.hid (HW.out.trans (hb1.mono HW.out.size))
  clear hb1
  go_wp2_with (fail)
  refine (HF.out _ HW1.out).mono ?_
  rintro e w2 ⟨rfl, hb1⟩
  have HA2 := Lib.hid (HA1.out.under hb1)
  have HW2 := Lib.hid (HW1.out.trans (hb1.mono HW1.out.size))
  clear hb1
  rcases hb with rfl | ⟨rfl, rfl⟩ | ⟨rfl, rfl, h12⟩
  · go_wp2
    go_ret
    exact ⟨rfl, HW2.out⟩
  · have c0 := HA2.out.cell (i := 0) rfl
    have c1 := HA2.out.cell (i := 1) rfl
    have c2 := HA2.out.cell (i := 2) rfl
    go_wp2_with (fail)
    refine (HR.out _).mono ?_
    rintro e w3 ⟨rfl, hb1⟩
    have HW3 := Lib.hid (HW2.out.trans (hb1.mono HW2.out.size))
    clear hb1 c0 c1 c2
    go_wp2
    go_ret
    exact ⟨rfl, HW3.out⟩
  · have c0 := HA2.out.cell (i := 0) rfl
    have c1 := HA2.out.cell (i := 1) rfl
    have c2 := HA2.out.cell (i := 2) rfl
    go_wp2_with (fail)
    refine (HR.out _).mono ?_
    rintro e w3 ⟨rfl, hb1⟩
    have HW3 := Lib.hid (HW2.out.trans (hb1.mono HW2.out.size))
    clear hb1 c0 c1 c2
    have h12' : (12 : Int) < (m : Int) := by omega
    go_wp2
    go_ret
    exact ⟨rfl, HW3.out⟩

set_option maxRecDepth 100000 in
set_option maxHeartbeats 2000000 in
theorem fuel_err (E : Int) (h0 : (E != 0) = true) (h1 : (E == 170) = false) (n m : Nat) (hn : n ≤ 60) (hm : m ≤ 12) (mo : Int) (hmo0 : 0 ≤ mo) (hmo1 : mo ≤ 255) (q p : Option Addr) (capq cap : Nat) (n0 : Bool) (n1 n2 : ByteArray) (w : World)
    (HS : Hid (∀ w : World, Calls Tryz.prog 28 #[] w fun e w' => e = .returned (.bool true) ∧ Below w.heap.size w w'))
    (HF : Hid (∀ w', Below w.heap.size w w' → Calls Tryz.prog 29 #[.slice q n capq] w' fun e w'' => e = .returned (.bool true) ∧ Below w'.heap.size w' w''))
    (HR : Hid (∀ w : World, Calls Tryz.prog 30 #[.agg #[.bool n0, .string n1, .string n2]] w fun e w' => e = .returned (.bool true) ∧ Below w.heap.size w w'))
    (H0 : Hid (∀ w', Below w.heap.size w w' → Calls Tryz.prog 31 #[.slice q n capq, .slice p m cap, .agg #[.bool n0, .string n1, .string n2], .int .i64 (n : Int)] w' fun e w'' => e = .returned (runErr E) ∧ Below w'.heap.size w' w''))
    (H1 : Hid (∀ w', Below w.heap.size w w' → Calls Tryz.prog 31 #[.slice q n capq, .slice p m cap, .agg #[.bool n0, .string n1, .string n2], .int .i64 ((n : Int) + mo)] w' fun e w'' => e = .returned (runErr E) ∧ Below w'.heap.size w' w'')) :
    Calls Tryz.prog 9 #[.slice q n capq, .slice p m cap, .agg #[.bool n0, .string n1, .string n2], .int .u8 mo] w fun e w' => e = .returned (.bool true) ∧ Below w.heap.size w w' := by
  have h2 : (E != E) = false := by simp
  unfold runErr at *
  have HA : Hid (Blk (w.alloc (.cells #[.bool n0, .string n1, .string n2] 48)) w.heap.size 48 #[.bool n0, .string n1, .string n2]) := Blk.new w _ _
  have HW : Hid (Below w.heap.size w (w.alloc (.cells #[.bool n0, .string n1, .string n2] 48))) := (Below.refl _ w).alloc (Nat.le_refl _) _
  have hm12 : ¬ (12 : Int) < (m : Int) := by omega
  go_enter Tryz.func9, Tryz.ntmps9
  go_wp2_with (fail)
  refine (HS.out _).mono ?_
  rintro e w1 ⟨rfl, hb1⟩
  have HA1 := Lib.hid (HA.out.under hb1)
  have HW1 := Lib.hid (HW.out.trans (hb1.mono HW.out.size))
  clear hb1
  go_wp2_with (fail)
  refine (HF.out _ HW1.out).mono ?_
  rintro e w2 ⟨rfl, hb1⟩
  have HA2 := Lib.hid (HA1.out.under hb1)
  have HW2 := Lib.hid (HW1.out.trans (hb1.mono HW1.out.size))
  clear hb1
  have c0 := HA2.out.cell (i := 0) rfl
  have c1 := HA2.out.cell (i := 1) rfl
  have c2 := HA2.out.cell (i := 2) rfl
  go_wp2_with (fail)
  refine (HR.out _).mono ?_
  rintro e w3 ⟨rfl, hb1⟩
  have HA3 := Lib.hid (HA2.out.under hb1)
  have HW3 := Lib.hid (HW2.out.trans (hb1.mono HW2.out.size))
  clear hb1 c0 c1 c2
  have c0 := HA3.out.cell (i := 0) rfl
  have c1 := HA3.out.cell (i := 1) rfl
  have c2 := HA3.out.cell (i := 2) rfl
  go_wp2_with (fail)
  refine (H0.out _ HW3.out).mono ?_
  rintro e w4 ⟨rfl, hb1⟩
  have HA4 := Lib.hid (HA3.out.under hb1)
  have HW4 := Lib.hid (HW3.out.trans (hb1.mono HW3.out.size))
  clear hb1 c0 c1 c2
  have c0 := HA4.out.cell (i := 0) rfl
  have c1 := HA4.out.cell (i := 1) rfl
  have c2 := HA4.out.cell (i := 2) rfl
  go_wp2_with (fail)
  refine (H1.out _ HW4.out).mono ?_
  rintro e w5 ⟨rfl, hb1⟩
  have HA5 := Lib.hid (HA4.out.under hb1)
  have HW5 := Lib.hid (HW4.out.trans (hb1.mono HW4.out.size))
  clear hb1 c0 c1 c2
  go_wp2_with (fail)
  refine (SameUses_any _ _ [] [] _ (.inl ⟨_, _, rfl, rfl⟩) (.inl ⟨_, _, rfl, rfl⟩)).mono ?_
  rintro e w6 ⟨rfl, hb1⟩
  have HW6 := Lib.hid (HW5.out.trans (hb1.mono HW5.out.size))
  clear hb1
  go_wp2_with (fail)
  refine (SameWork_any _ _ [] [] _ (.inl ⟨_, _, rfl, rfl⟩) (.inl ⟨_, _, rfl, rfl⟩)).mono ?_
  rintro e w7 ⟨rfl, hb1⟩
  have HW7 := Lib.hid (HW6.out.trans (hb1.mono HW6.out.size))
  clear hb1
  go_wp2
  go_ret
  exact ⟨rfl, HW7.out⟩

def RunOk (w : World) (us : List UseV) (ws : List WorkV) (lead left : Int) (e : Ending) (w' : World) : Prop :=
  ∃ u k, e = .returned (.tuple #[u, k, .int .i64 lead, .int .i64 left, .int .i64 0]) ∧ RowIs UseAt 6 w' u us ∧ RowIs WorkAt 2 w' k ws ∧ Below w.heap.size w w'
set_option maxRecDepth 100000 in
set_option maxHeartbeats 2000000 in
theorem fuel_ok (us : List UseV) (ws : List WorkV) (lead lf bl : Int) (n m : Nat) (hn : n ≤ 60) (hm : m ≤ 12) (mo : Int) (hmo0 : 0 ≤ mo) (hmo1 : mo ≤ 255) (q p : Option Addr) (capq cap : Nat) (n0 : Bool) (n1 n2 : ByteArray) (w : World)
    (HS : Hid (∀ w : World, Calls Tryz.prog 28 #[] w fun e w' => e = .returned (.bool true) ∧ Below w.heap.size w w'))
    (HF : Hid (∀ w', Below w.heap.size w w' → Calls Tryz.prog 29 #[.slice q n capq] w' fun e w'' => e = .returned (.bool true) ∧ Below w'.heap.size w' w''))
    (HR : Hid (∀ w : World, Calls Tryz.prog 30 #[.agg #[.bool n0, .string n1, .string n2]] w fun e w' => e = .returned (.bool true) ∧ Below w.heap.size w w'))
    (hl0 : 0 ≤ lf) (hl1 : lf < (n : Int)) (hbl : (bl != lf + mo) = false)
    (H0 : Hid (∀ w', Below w.heap.size w w' → Calls Tryz.prog 31 #[.slice q n capq, .slice p m cap, .agg #[.bool n0, .string n1, .string n2], .int .i64 (n : Int)] w' (RunOk w' us ws lead lf)))
    (H1 : Hid (∀ w', Below w.heap.size w w' → Calls Tryz.prog 31 #[.slice q n capq, .slice p m cap, .agg #[.bool n0, .string n1, .string n2], .int .i64 ((n : Int) + mo)] w' (RunOk w' us ws lead bl)))
    (H2 : Hid (∀ w', Below w.heap.size w w' → Calls Tryz.prog 31 #[.slice q n capq, .slice p m cap, .agg #[.bool n0, .string n1, .string n2], .int .i64 ((n : Int) - lf)] w' (RunOk w' us ws lead 0)))
    (H3 : Hid (∀ w', Below w.heap.size w w' → Calls Tryz.prog 31 #[.slice q n capq, .slice p m cap, .agg #[.bool n0, .string n1, .string n2], .int .i64 ((n : Int) - lf - 1)] w' fun e w'' => e = .returned (runErr 170) ∧ Below w'.heap.size w' w'')) :
    Calls Tryz.prog 9 #[.slice q n capq, .slice p m cap, .agg #[.bool n0, .string n1, .string n2], .int .u8 mo] w fun e w' => e = .returned (.bool true) ∧ Below w.heap.size w w' := by
  have h2 : (lead != lead) = false := by simp
  unfold runErr at *
  have HA : Hid (Blk (w.alloc (.cells #[.bool n0, .string n1, .string n2] 48)) w.heap.size 48 #[.bool n0, .string n1, .string n2]) := Blk.new w _ _
  have HW : Hid (Below w.heap.size w (w.alloc (.cells #[.bool n0, .string n1, .string n2] 48))) := (Below.refl _ w).alloc (Nat.le_refl _) _
  have hm12 : ¬ (12 : Int) < (m : Int) := by omega
  go_enter Tryz.func9, Tryz.ntmps9
  go_wp2_with (fail)
  refine (HS.out _).mono ?_
  rintro e w1 ⟨rfl, hb1⟩
  have HA1 := Lib.hid (HA.out.under hb1)
  have HW1 := Lib.hid (HW.out.trans (hb1.mono HW.out.size))
  clear hb1
  go_wp2_with (fail)
  refine (HF.out _ HW1.out).mono ?_
  rintro e w2 ⟨rfl, hb1⟩
  have HA2 := Lib.hid (HA1.out.under hb1)
  have HW2 := Lib.hid (HW1.out.trans (hb1.mono HW1.out.size))
  clear hb1
  have c0 := HA2.out.cell (i := 0) rfl
  have c1 := HA2.out.cell (i := 1) rfl
  have c2 := HA2.out.cell (i := 2) rfl
  go_wp2_with (fail)
  refine (HR.out _).mono ?_
  rintro e w3 ⟨rfl, hb1⟩
  have HA3 := Lib.hid (HA2.out.under hb1)
  have HW3 := Lib.hid (HW2.out.trans (hb1.mono HW2.out.size))
  clear hb1 c0 c1 c2
  have c0 := HA3.out.cell (i := 0) rfl
  have c1 := HA3.out.cell (i := 1) rfl
  have c2 := HA3.out.cell (i := 2) rfl
  go_wp2_with (fail)
  refine (H0.out _ HW3.out).mono ?_
  rintro e w4 ⟨u1, k1, rfl, hu, hk, hb1⟩
  have HA4 := Lib.hid (HA3.out.under hb1)
  have HW4 := Lib.hid (HW3.out.trans (hb1.mono HW3.out.size))
  have HU4 := Lib.hid hu
  have HK4 := Lib.hid hk
  clear hu hk
  clear hb1 c0 c1 c2
  have c0 := HA4.out.cell (i := 0) rfl
  have c1 := HA4.out.cell (i := 1) rfl
  have c2 := HA4.out.cell (i := 2) rfl
  go_wp2_with (fail)
  refine (H1.out _ HW4.out).mono ?_
  rintro e w5 ⟨u2, k2, rfl, hu, hk, hb1⟩
  have HA5 := Lib.hid (HA4.out.under hb1)
  have HW5 := Lib.hid (HW4.out.trans (hb1.mono HW4.out.size))
  have HU5 := Lib.hid (uses_under HU4.out hb1)
  have HK5 := Lib.hid (work_under HK4.out hb1)
  have HV5 := Lib.hid hu
  have HL5 := Lib.hid hk
  clear hu hk
  clear hb1 c0 c1 c2
  go_wp2_with (fail)
  refine (SameUses_any _ _ us us _ HU5.out HV5.out).mono ?_
  rw [decide_eq_true (show us = us from rfl)]
  rintro e w6 ⟨rfl, hb1⟩
  have HA6 := Lib.hid (HA5.out.under hb1)
  have HW6 := Lib.hid (HW5.out.trans (hb1.mono HW5.out.size))
  have HK6 := Lib.hid (work_under HK5.out hb1)
  have HL6 := Lib.hid (work_under HL5.out hb1)
  clear hb1
  go_wp2_with (fail)
  refine (SameWork_any _ _ ws ws _ HK6.out HL6.out).mono ?_
  rw [decide_eq_true (show ws = ws from rfl)]
  rintro e w7 ⟨rfl, hb1⟩
  have HA7 := Lib.hid (HA6.out.under hb1)
  have HW7 := Lib.hid (HW6.out.trans (hb1.mono HW6.out.size))
  clear hb1
  have c0 := HA7.out.cell (i := 0) rfl
  have c1 := HA7.out.cell (i := 1) rfl
  have c2 := HA7.out.cell (i := 2) rfl
  go_wp2_with (fail)
  refine (H2.out _ HW7.out).mono ?_
  rintro e w8 ⟨u3, k3, rfl, hu, hk, hb1⟩
  have HA8 := Lib.hid (HA7.out.under hb1)
  have HW8 := Lib.hid (HW7.out.trans (hb1.mono HW7.out.size))
  clear hu hk
  clear hb1 c0 c1 c2
  have c0 := HA8.out.cell (i := 0) rfl
  have c1 := HA8.out.cell (i := 1) rfl
  have c2 := HA8.out.cell (i := 2) rfl
  go_wp2_with (fail)
  refine (H3.out _ HW8.out).mono ?_
  rintro e w9 ⟨rfl, hb1⟩
  have HA9 := Lib.hid (HA8.out.under hb1)
  have HW9 := Lib.hid (HW8.out.trans (hb1.mono HW8.out.size))
  clear hb1 c0 c1 c2
  go_wp2
  go_ret
  exact ⟨rfl, HW9.out⟩
end Go.Proofs.YtekjphkabfiheaaGreat
/- MachineFuel: joined. -/
namespace Go.Proofs.YtekjphkabfiheaaGreat
open Go.RowKit Go.ChangeShapes Go.WideShapes Go.ChangeAt BF

theorem runOk_of {w w' : World} {e : Ending} {s : MS} {l : Nat} (h : RunPost w (.ok (s, l)) e w') : RunOk w s.us s.ws s.lead (l : Int) e w' := by
  obtain ⟨hb, u, k, he, hu, hk⟩ := h
  exact ⟨u, k, he, uses_row hu, work_row hk, hb⟩
theorem CodeIs.form {w : World} {v : Value} {xs : List Ins} (h : CodeIs w v xs) : ∃ p cap, v = .slice p xs.length cap := by
  rcases h with ⟨p, cap, rfl, rfl⟩ | ⟨g, o, cap, rfl, _⟩
  · exact ⟨_, _, rfl⟩
  · exact ⟨_, _, rfl⟩
theorem IntsIs.form {w : World} {v : Value} {xs : List Int} (h : IntsIs w v xs) : ∃ p cap, v = .slice p xs.length cap := by
  rcases h with ⟨p, cap, rfl, rfl⟩ | ⟨g, o, cap, rfl, _⟩
  · exact ⟨_, _, rfl⟩
  · exact ⟨_, _, rfl⟩
/-- what is proved of the examples -/
def SaneHolds : Prop := ∀ w : World, Calls Tryz.prog 28 #[] w fun e w' => e = .returned (.bool true) ∧ Below w.heap.size w w'

theorem fuel_walk (HS : SaneHolds) (xs : List Ins) (cs : List Int) (am : RV) (mo : Int) (cv sv : Value) (w : World) (hx : CodeIs w cv xs) (hf : ∀ x ∈ xs, x.r.fits) (hl : xs.length ≤ maxLen) (hs : IntsIs w sv cs) (hsl : cs.length ≤ maxLen) (ha : am.fits) (h0 : 0 ≤ mo) (h1 : mo ≤ 255) :
    Calls Tryz.prog 9 #[cv, sv, am.v, .int .u8 mo] w fun e w' => e = .returned (.bool true) ∧ Below w.heap.size w w' := by
  obtain ⟨q, capq, hcv⟩ := hx.form
  obtain ⟨p, cap, hsv⟩ := hs.form
  have HF : ∀ b, fewC xs = b → Hid (∀ w', Below w.heap.size w w' → Calls Tryz.prog 29 #[cv] w' fun e w'' => e = .returned (.bool b) ∧ Below w'.heap.size w' w'') := fun b hb => by
    subst hb; exact fun w' h => Few_any cv xs w' (hx.under h) hf hl
  have HR : ∀ b, fewB am = b → Hid (∀ w : World, Calls Tryz.prog 30 #[.agg #[.bool am.neg, .string am.n, .string am.d]] w fun e w' => e = .returned (.bool b) ∧ Below w.heap.size w w') := fun b hb => by
    subst hb; exact fun w' => FewRatio_any am ha w'
  show Calls _ _ #[cv, sv, .agg #[.bool am.neg, .string am.n, .string am.d], .int .u8 mo] _ _
  cases hb1 : fewC xs with
  | false => rw [hsv]; exact fuel_few false (fewB am) cs.length hsl (.inl rfl) cv p cap am.neg am.n am.d mo w HS (HF _ hb1) (HR _ rfl)
  | true =>
  cases hb2 : fewB am with
  | false => rw [hsv]; exact fuel_few true false cs.length hsl (.inr (.inl ⟨rfl, rfl⟩)) cv p cap am.neg am.n am.d mo w HS (HF _ hb1) (HR _ hb2)
  | true =>
  by_cases hc : 12 < cs.length
  · rw [hsv]; exact fuel_few true true cs.length hsl (.inr (.inr ⟨rfl, rfl, hc⟩)) cv p cap am.neg am.n am.d mo w HS (HF _ hb1) (HR _ hb2)
  have hn := fewC_len hb1
  have HRun : ∀ F : Int, F ≤ 9223372036854775807 → ∀ w', Below w.heap.size w w' → Calls Tryz.prog 31 #[.slice q xs.length capq, .slice p cs.length cap, .agg #[.bool am.neg, .string am.n, .string am.d], .int .i64 F] w' (RunPost w' (runV xs cs am F)) := fun F hF w' hb => by
    have := Run_any xs cs am F cv sv w' (hx.under hb) hn hf ha (hs.under hb) (by omega) hF
    rw [hcv, hsv] at this
    exact this
  have HFt := HF _ hb1
  have HRt := HR _ hb2
  rw [hcv] at HFt
  rw [hcv, hsv]
  obtain ⟨k, rfl⟩ := Int.eq_ofNat_of_zero_le h0
  rcases fuel_law xs cs am with ⟨E, hE0, hE1, hE⟩ | ⟨s, j, hj0, hj1, hr⟩
  · refine fuel_err E (by simpa using hE0) (by simpa using hE1) xs.length cs.length hn (by omega) k h0 h1 q p capq cap am.neg am.n am.d w HS HFt HRt ?_ ?_
    · intro w' hb
      have h := HRun (xs.length : Int) (by omega) w' hb
      rw [show (xs.length : Int) = ((xs.length + 0 : Nat) : Int) by omega, hE] at h
      exact h
    · intro w' hb
      have h := HRun ((xs.length + k : Nat) : Int) (by omega) w' hb
      rw [hE] at h
      rw [show (xs.length : Int) + (k : Int) = ((xs.length + k : Nat) : Int) by omega]
      exact h
  · have hok : ∀ m : Nat, j ≤ m → m ≤ 1000 → ∀ w', Below w.heap.size w w' → Calls Tryz.prog 31 #[.slice q xs.length capq, .slice p cs.length cap, .agg #[.bool am.neg, .string am.n, .string am.d], .int .i64 (m : Int)] w' (RunOk w' s.us s.ws s.lead ((m - j : Nat) : Int)) := fun m hm hm2 w' hb => by
      have h := HRun (m : Int) (by omega) w' hb
      rw [hr, if_neg (by omega)] at h
      exact h.mono fun e w'' h => runOk_of h
    refine fuel_ok s.us s.ws s.lead ((xs.length - j : Nat) : Int) ((xs.length + k - j : Nat) : Int) xs.length cs.length hn (by omega) k h0 h1 q p capq cap am.neg am.n am.d w HS HFt HRt (by omega) (by omega) (by simp; omega) ?_ ?_ ?_ ?_
    · exact fun w' hb => hok xs.length hj1 (by omega) w' hb
    · intro w' hb
      have := hok (xs.length + k) (by omega) (by omega) w' hb
      rw [show (xs.length : Int) + (k : Int) = ((xs.length + k : Nat) : Int) by omega]
      exact this
    · intro w' hb
      have := hok j (by omega) (by omega) w' hb
      rw [show (xs.length : Int) - ((xs.length - j : Nat) : Int) = (j : Int) by omega]
      simpa using this
    · intro w' hb
      have h := HRun ((j - 1 : Nat) : Int) (by omega) w' hb
      rw [hr, if_pos (by omega)] at h
      rw [show (xs.length : Int) - ((xs.length - j : Nat) : Int) - 1 = ((j - 1 : Nat) : Int) by omega]
      exact h
end Go.Proofs.YtekjphkabfiheaaGreat
