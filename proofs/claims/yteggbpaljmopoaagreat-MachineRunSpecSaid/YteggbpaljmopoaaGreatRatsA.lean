/- The package ratios: what its first functions return. Conditions: those that each theorem states. -/
import Derived.Test.YteggbpaljmopoaaGreatNatsB
import Derived.WalkLawsBesides
import Derived.WalkSpells
import Derived.Deep.RegionHeld3
import Derived.Test.YteggbpaljmopoaaGreatPlain
set_option linter.unusedVariables false
set_option linter.unusedSimpArgs false
/- Walks of ratios: must, plus, times, less, amount. -/
namespace Go.Proofs.YteggbpaljmopoaaGreat
open Go.RowKit BF

/-- the panic with an error of ratios -/
def failv (e : Int) : List PanicEntry := [{ v := .iface 151 (.agg #[.int .i64 e]), recovered := false }]

set_option maxHeartbeats 400000 in
theorem must_ok (s : ByteArray) (w : World) : Calls Tryz.prog 61 #[.string s, .int .i64 0] w fun e w' => e = .returned (.string s) ∧ w = w' := by
  go_enter Tryz.func61, Tryz.ntmps61
  go_wp2
  go_ret
  exact ⟨rfl, rfl⟩

set_option maxHeartbeats 400000 in
theorem must_fail (s : ByteArray) (n : Int) (hn : (n != 0) = true) (w : World) : Calls Tryz.prog 61 #[.string s, .int .i64 n] w fun e w' => e = .panicked (failv 2) ∧ w = w' := by
  go_enter Tryz.func61, Tryz.ntmps61
  go_wp2
  exact ⟨rfl, rfl, rfl⟩

theorem nat_le {x : Nat} (h : small x) : (nat x).size ≤ maxLen := by
  have := nat_small_max h
  unfold maxLen; omega

set_option maxHeartbeats 400000 in
theorem times_ok (x y : Nat) (hx : small x) (hy : small y) (h : small (x * y)) (w : World) :
    Calls Tryz.prog 159 #[.string (nat x), .string (nat y)] w fun e w' => e = .returned (.string (nat (x * y))) ∧ Below w.heap.size w w' := by
  have HM := Lib.hid (Mul_any (nat x) (nat y) w (nat_le hx) (nat_le hy))
  have e := mulS_nat hx hy h
  rw [e.1, e.2] at HM
  clear e hx hy h
  generalize nat x = a at *
  generalize nat y = b at *
  generalize nat (x * y) = c at *
  go_enter Tryz.func159, Tryz.ntmps159
  go_wp2_with (first
    | (go_at_call 206; refine HM.out.mono ?_; rintro e w' ⟨rfl, hb⟩)
    | (go_at_call 61; refine (must_ok _ _).mono ?_; rintro e w' ⟨rfl, rfl⟩))
  go_ret
  exact ⟨rfl, hb⟩

set_option maxHeartbeats 400000 in
theorem times_fail (x y : Nat) (hx : small x) (hy : small y) (h : ¬ small (x * y)) (w : World) :
    Calls Tryz.prog 159 #[.string (nat x), .string (nat y)] w fun e w' => e = .panicked (failv 2) ∧ Below w.heap.size w w' := by
  have HM := Lib.hid (Mul_any (nat x) (nat y) w (nat_le hx) (nat_le hy))
  have e := mulS_long hx hy h
  rw [e] at HM
  clear e hx hy h
  generalize mulS (nat x) (nat y) = c at *
  generalize nat x = a at *
  generalize nat y = b at *
  go_enter Tryz.func159, Tryz.ntmps159
  go_wp2_with (first
    | (go_at_call 206; refine HM.out.mono ?_; rintro e w' ⟨rfl, hb⟩)
    | (go_at_call 61; refine (must_fail _ _ rfl _).mono ?_; rintro e w' ⟨rfl, rfl⟩))
  exact ⟨rfl, rfl, hb⟩

set_option maxHeartbeats 400000 in
theorem plus_ok (x y : Nat) (hx : small x) (hy : small y) (h : small (x + y)) (w : World) :
    Calls Tryz.prog 63 #[.string (nat x), .string (nat y)] w fun e w' => e = .returned (.string (nat (x + y))) ∧ Below w.heap.size w w' := by
  have HM := Lib.hid (Add_any (nat x) (nat y) w (nat_le hx) (nat_le hy))
  have e := addS_nat hx hy h
  rw [e.1, e.2] at HM
  clear e hx hy h
  generalize nat x = a at *
  generalize nat y = b at *
  generalize nat (x + y) = c at *
  go_enter Tryz.func63, Tryz.ntmps63
  go_wp2_with (first
    | (go_at_call 98; refine HM.out.mono ?_; rintro e w' ⟨rfl, hb⟩)
    | (go_at_call 61; refine (must_ok _ _).mono ?_; rintro e w' ⟨rfl, rfl⟩))
  go_ret
  exact ⟨rfl, hb⟩

set_option maxHeartbeats 400000 in
theorem plus_fail (x y : Nat) (hx : small x) (hy : small y) (h : ¬ small (x + y)) (w : World) :
    Calls Tryz.prog 63 #[.string (nat x), .string (nat y)] w fun e w' => e = .panicked (failv 2) ∧ Below w.heap.size w w' := by
  have HM := Lib.hid (Add_any (nat x) (nat y) w (nat_le hx) (nat_le hy))
  have e := addS_long hx hy h
  rw [e] at HM
  clear e hx hy h
  generalize addS (nat x) (nat y) = c at *
  generalize nat x = a at *
  generalize nat y = b at *
  go_enter Tryz.func63, Tryz.ntmps63
  go_wp2_with (first
    | (go_at_call 98; refine HM.out.mono ?_; rintro e w' ⟨rfl, hb⟩)
    | (go_at_call 61; refine (must_fail _ _ rfl _).mono ?_; rintro e w' ⟨rfl, rfl⟩))
  exact ⟨rfl, rfl, hb⟩

set_option maxHeartbeats 400000 in
theorem rless_any (x y : Nat) (hx : small x) (hy : small y) (w : World) :
    Calls Tryz.prog 207 #[.string (nat x), .string (nat y)] w fun e w' => e = .returned (.bool (decide (x < y))) ∧ Below w.heap.size w w' := by
  have HM := Lib.hid (Compare_any (nat x) (nat y) w (nat_le hx) (nat_le hy))
  rw [cmpN_nat hx hy, chk_nat2 hx hy] at HM
  have hc := cmpNat_lt (a := x) (b := y)
  generalize cmpNat x y = c at *
  clear hx hy
  generalize nat x = a at *
  generalize nat y = b at *
  have HC := Lib.hid hc
  clear hc
  go_enter Tryz.func207, Tryz.ntmps207
  go_wp2_with (go_at_call 262; refine HM.out.mono ?_; rintro e w' ⟨rfl, hb⟩)
  go_ret
  exact ⟨congrArg (fun b => Ending.returned (.bool b)) (decide_eq_decide.2 HC.out), hb⟩

set_option maxHeartbeats 400000 in
theorem amount_any (n : Int) (h1 : -9223372036854775808 ≤ n) (h2 : n ≤ 9223372036854775807) (w : World) :
    Calls Tryz.prog 34 #[.int .i64 n] w fun e w' => e = .returned (.string (nat n.natAbs)) ∧ Below w.heap.size w w' := by
  by_cases h0 : 0 ≤ n
  · have HO := Lib.hid (Of_any n w h1 h2)
    rw [show ofS n = nat n.natAbs by unfold ofS; rw [if_pos h0]; unfold nat; congr 2; omega, show ofE n = 0 from if_pos h0] at HO
    generalize nat n.natAbs = s at *
    go_enter Tryz.func34, Tryz.ntmps34
    go_wp2_with (first
      | (go_at_call 62; refine HO.out.mono ?_; rintro e w' ⟨rfl, hb⟩)
      | (go_at_call 61; refine (must_ok _ _).mono ?_; rintro e w' ⟨rfl, rfl⟩))
    go_ret
    exact ⟨rfl, hb⟩
  · obtain ⟨m, hm⟩ : ∃ m : Nat, (m : Int) = -(n + 1) := ⟨(-(n + 1)).toNat, by omega⟩
    have hsm : small (m + 1) := by
      rw [small_lt]
      exact Nat.lt_of_le_of_lt (show m + 1 ≤ 9223372036854775808 by omega) (Nat.lt_of_lt_of_le (show 9223372036854775808 < 256 ^ 8 by decide) (Nat.pow_le_pow_right (by decide) (by decide)))
    have HO := Lib.hid (Of_any (-(n + 1)) w (by omega) (by omega))
    rw [show ofS (-(n + 1)) = nat m by unfold ofS; rw [if_pos (by omega)]; unfold nat; congr 2; omega, show ofE (-(n + 1)) = 0 from if_pos (by omega)] at HO
    have HP : Hid (∀ w : World, Calls Tryz.prog 63 #[.string (nat m), .string ⟨#[1]⟩] w fun e w' => e = .returned (.string (nat n.natAbs)) ∧ Below w.heap.size w w') := by
      intro w
      have := plus_ok m 1 (small_mono hsm (by omega)) (small_mono hsm (by omega)) hsm w
      rw [show m + 1 = n.natAbs by omega] at this
      exact this
    generalize nat n.natAbs = s at *
    generalize nat m = s2 at *
    clear hm hsm
    go_enter Tryz.func34, Tryz.ntmps34
    go_wp2_with (first
      | (go_at_call 62; refine HO.out.mono ?_; rintro e w' ⟨rfl, hb⟩)
      | (go_at_call 61; refine (must_ok _ _).mono ?_; rintro e w' ⟨rfl, rfl⟩)
      | (go_at_call 63; refine (HP.out _).mono ?_; rintro e w'' ⟨rfl, hb2⟩))
    go_ret
    exact ⟨rfl, hb.trans (hb2.mono hb.size)⟩
end Go.Proofs.YteggbpaljmopoaaGreat
/- Walks of ratios: over, add, Check, valid, New. -/
namespace Go.Proofs.YteggbpaljmopoaaGreat
open Go.RowKit BF

def rV (neg : Bool) (n d : ByteArray) : Value := .agg #[.bool neg, .string n, .string d]
def qV (q : Rat) : Value := rV (decide (q < 0)) (nat q.num.natAbs) (nat q.den)
def sV (neg : Bool) (n : ByteArray) : Value := .agg #[.bool neg, .string n]

theorem qV_mkQ (neg : Bool) (n d : Nat) (hd : 0 < d) : qV (mkQ neg n d) = rV (neg && decide (n / Nat.gcd n d ≠ 0)) (nat (n / Nat.gcd n d)) (nat (d / Nat.gcd n d)) := by
  unfold qV
  rw [mkQ_neg neg n d hd, mkQ_natAbs neg n d hd, mkQ_den neg n d hd]

theorem nat_empty {n : Nat} (h : n = 0) : (nat n).toList.isEmpty = true ∧ (nat n).toList = [] := by
  subst h; rw [ByteArray.toList_eq]; exact ⟨rfl, rfl⟩
theorem nat_nonempty {n : Nat} (h : n ≠ 0) : (nat n).toList.isEmpty = false ∧ ¬ (nat n).toList = [] := by
  have : ¬ (nat n).toList = [] := by
    rw [ByteArray.toList_eq]
    intro h2
    exact h (enc_eq_nil.1 h2)
  exact ⟨by simpa using this, this⟩

set_option maxRecDepth 100000 in
set_option maxHeartbeats 1000000 in
theorem over_any (neg : Bool) (n d : Nat) (hn : small n) (hd : small d) (hdp : 0 < d) (w : World) :
    Calls Tryz.prog 35 #[sV neg (nat n), .string (nat d)] w fun e w' => e = .returned (qV (mkQ neg n d)) ∧ Below w.heap.size w w' := by
  have hg : 0 < Nat.gcd n d := Nat.pos_of_ne_zero (fun h => by have := Nat.eq_zero_of_gcd_eq_zero_right h; omega)
  have hgs := small_gcd' hn hd
  have HG : Hid (∀ w : World, Calls Tryz.prog 33 #[.string (nat n), .string (nat d)] w fun e w' => e = .returned (.tuple #[.string (nat (Nat.gcd n d)), .int .i64 0]) ∧ Below w.heap.size w w') := fun w => by
    have := Gcd_any (nat n) (nat d) w (nat_le hn) (nat_le hd)
    rw [gcdS_nat hn hd, chk_nat2 hn hd] at this
    exact this
  have HD1 : Hid (∀ w : World, Calls Tryz.prog 64 #[.string (nat n), .string (nat (Nat.gcd n d))] w fun e w' => e = .returned (.tuple #[.string (nat (n / Nat.gcd n d)), .string (nat (n % Nat.gcd n d)), .int .i64 0]) ∧ Below w.heap.size w w') := fun w => by
    have := Div_any (nat n) (nat (Nat.gcd n d)) w (nat_le hn) (nat_le hgs)
    have e := divS_nat hn hgs hg
    rw [e.1, e.2.1, e.2.2] at this
    exact this
  have HD2 : Hid (∀ w : World, Calls Tryz.prog 64 #[.string (nat d), .string (nat (Nat.gcd n d))] w fun e w' => e = .returned (.tuple #[.string (nat (d / Nat.gcd n d)), .string (nat (d % Nat.gcd n d)), .int .i64 0]) ∧ Below w.heap.size w w') := fun w => by
    have := Div_any (nat d) (nat (Nat.gcd n d)) w (nat_le hd) (nat_le hgs)
    have e := divS_nat hd hgs hg
    rw [e.1, e.2.1, e.2.2] at this
    exact this
  rw [qV_mkQ neg n d hdp]
  have hz : (nat (n / Nat.gcd n d)).toList.isEmpty = !(decide (n / Nat.gcd n d ≠ 0)) ∧ ((nat (n / Nat.gcd n d)).toList = [] ↔ n / Nat.gcd n d = 0) := by
    by_cases h : n / Nat.gcd n d = 0
    · have := nat_empty h
      rw [this.1, this.2]; simp [h]
    · have := nat_nonempty h
      rw [this.1]; simp [h, this.2]
  obtain ⟨b, hb⟩ : ∃ b, b = decide (n / Nat.gcd n d ≠ 0) := ⟨_, rfl⟩
  rw [← hb] at hz
  have hz2 : b = true ↔ ¬ n / Nat.gcd n d = 0 := by rw [hb]; exact decide_eq_true_iff
  rw [← hb]
  clear hn hd hdp hg hgs hb
  generalize nat (n % Nat.gcd n d) = r1 at *
  generalize nat (d % Nat.gcd n d) = r2 at *
  generalize nat (n / Nat.gcd n d) = n' at *
  generalize nat (d / Nat.gcd n d) = d' at *
  generalize nat (Nat.gcd n d) = g at *
  generalize nat n = a at *
  generalize nat d = c at *
  unfold sV rV
  obtain ⟨e1, e2⟩ := hz
  have e3 : n'.toList = [] ∨ ¬ n'.toList = [] := by by_cases h : n'.toList = [] <;> simp [h]
  have hq : (neg = true ∧ b = true ∧ n'.toList.isEmpty = false ∧ ¬ n'.toList = []) ∨ (neg = true ∧ b = false ∧ n'.toList.isEmpty = true ∧ n'.toList = []) ∨ (neg = false ∧ true = true) := by
    cases neg <;> cases b <;> simp_all
  clear e1 e2 e3 hz2
  rcases hq with ⟨rfl, rfl, q1, q2⟩ | ⟨rfl, rfl, q1, q2⟩ | ⟨rfl, -⟩
  · go_enter Tryz.func35, Tryz.ntmps35
    go_wp2_with (fail)
    refine (HG.out _).mono ?_
    rintro e w1 ⟨rfl, hb1⟩
    have HA1 : Hid (Blk w1 w.heap.size 85 #[.bool _, .string a]) := ((Blk.new w _ _).alloc _).under hb1
    have HR1 : Hid (Blk w1 (w.heap.size + 1) 25 #[.bool false, .string (str []), .string (str [])]) := (Blk.new' _ _ _ _ (by simp)).under hb1
    have HB1 : Hid (Below w.heap.size w w1) := (((Below.refl _ w).alloc (Nat.le_refl _) _).alloc (by simp) _).trans (hb1.mono (by simp; omega))
    have a1 := HA1.out.cell (i := 1) rfl
    clear hb1
    go_wp2_with (go_at_call 61; refine (must_ok _ _).mono ?_; rintro e w' ⟨rfl, rfl⟩)
    refine (HD1.out _).mono ?_
    rintro e w2 ⟨rfl, hb2⟩
    have HA2 := Lib.hid (HA1.out.under hb2)
    have HR2 := Lib.hid (HR1.out.under hb2)
    have HB2 := Lib.hid (HB1.out.trans (hb2.mono HB1.out.size))
    clear a1 hb2
    go_wp2_with (fail)
    refine (HD2.out _).mono ?_
    rintro e w3 ⟨rfl, hb3⟩
    have HA3 := Lib.hid (HA2.out.under hb3)
    have HR3 := Lib.hid (HR2.out.under hb3)
    have HB3 := Lib.hid (HB2.out.trans (hb3.mono HB2.out.size))
    have a0 := HA3.out.cell (i := 0) rfl
    have r0 := HR3.out.cell (i := 0) rfl
    have r1 := HR3.out.cell (i := 1) rfl
    have r2 := HR3.out.cell (i := 2) rfl
    have f0 := HR3.out.frozen
    clear hb3
    go_wp2
    have HE := ((HR3.out.set (i := 0) (.bool true)).set (i := 1) (.string n')).set (i := 2) (.string d')
    have e0 := HE.cell (i := 0) rfl
    have e1 := HE.cell (i := 1) rfl
    have e2 := HE.cell (i := 2) rfl
    refine bodyPost_ret (v := Value.agg #[.bool true, .string n', .string d']) ?_ rfl ⟨rfl, ((HB3.out.setCell (by simp) _).setCell (by simp) _).setCell (by simp) _⟩
    simp [results, Tryz.results35, go_sem, e0, e1, e2]
  · go_enter Tryz.func35, Tryz.ntmps35
    go_wp2_with (fail)
    refine (HG.out _).mono ?_
    rintro e w1 ⟨rfl, hb1⟩
    have HA1 : Hid (Blk w1 w.heap.size 85 #[.bool _, .string a]) := ((Blk.new w _ _).alloc _).under hb1
    have HR1 : Hid (Blk w1 (w.heap.size + 1) 25 #[.bool false, .string (str []), .string (str [])]) := (Blk.new' _ _ _ _ (by simp)).under hb1
    have HB1 : Hid (Below w.heap.size w w1) := (((Below.refl _ w).alloc (Nat.le_refl _) _).alloc (by simp) _).trans (hb1.mono (by simp; omega))
    have a1 := HA1.out.cell (i := 1) rfl
    clear hb1
    go_wp2_with (go_at_call 61; refine (must_ok _ _).mono ?_; rintro e w' ⟨rfl, rfl⟩)
    refine (HD1.out _).mono ?_
    rintro e w2 ⟨rfl, hb2⟩
    have HA2 := Lib.hid (HA1.out.under hb2)
    have HR2 := Lib.hid (HR1.out.under hb2)
    have HB2 := Lib.hid (HB1.out.trans (hb2.mono HB1.out.size))
    clear a1 hb2
    go_wp2_with (fail)
    refine (HD2.out _).mono ?_
    rintro e w3 ⟨rfl, hb3⟩
    have HA3 := Lib.hid (HA2.out.under hb3)
    have HR3 := Lib.hid (HR2.out.under hb3)
    have HB3 := Lib.hid (HB2.out.trans (hb3.mono HB2.out.size))
    have a0 := HA3.out.cell (i := 0) rfl
    have r0 := HR3.out.cell (i := 0) rfl
    have r1 := HR3.out.cell (i := 1) rfl
    have r2 := HR3.out.cell (i := 2) rfl
    have f0 := HR3.out.frozen
    clear hb3
    go_wp2
    have HE := ((HR3.out.set (i := 0) (.bool false)).set (i := 1) (.string n')).set (i := 2) (.string d')
    have e0 := HE.cell (i := 0) rfl
    have e1 := HE.cell (i := 1) rfl
    have e2 := HE.cell (i := 2) rfl
    refine bodyPost_ret (v := Value.agg #[.bool false, .string n', .string d']) ?_ rfl ⟨rfl, ((HB3.out.setCell (by simp) _).setCell (by simp) _).setCell (by simp) _⟩
    simp [results, Tryz.results35, go_sem, e0, e1, e2]
  · go_enter Tryz.func35, Tryz.ntmps35
    go_wp2_with (fail)
    refine (HG.out _).mono ?_
    rintro e w1 ⟨rfl, hb1⟩
    have HA1 : Hid (Blk w1 w.heap.size 85 #[.bool _, .string a]) := ((Blk.new w _ _).alloc _).under hb1
    have HR1 : Hid (Blk w1 (w.heap.size + 1) 25 #[.bool false, .string (str []), .string (str [])]) := (Blk.new' _ _ _ _ (by simp)).under hb1
    have HB1 : Hid (Below w.heap.size w w1) := (((Below.refl _ w).alloc (Nat.le_refl _) _).alloc (by simp) _).trans (hb1.mono (by simp; omega))
    have a1 := HA1.out.cell (i := 1) rfl
    clear hb1
    go_wp2_with (go_at_call 61; refine (must_ok _ _).mono ?_; rintro e w' ⟨rfl, rfl⟩)
    refine (HD1.out _).mono ?_
    rintro e w2 ⟨rfl, hb2⟩
    have HA2 := Lib.hid (HA1.out.under hb2)
    have HR2 := Lib.hid (HR1.out.under hb2)
    have HB2 := Lib.hid (HB1.out.trans (hb2.mono HB1.out.size))
    clear a1 hb2
    go_wp2_with (fail)
    refine (HD2.out _).mono ?_
    rintro e w3 ⟨rfl, hb3⟩
    have HA3 := Lib.hid (HA2.out.under hb3)
    have HR3 := Lib.hid (HR2.out.under hb3)
    have HB3 := Lib.hid (HB2.out.trans (hb3.mono HB2.out.size))
    have a0 := HA3.out.cell (i := 0) rfl
    have r0 := HR3.out.cell (i := 0) rfl
    have r1 := HR3.out.cell (i := 1) rfl
    have r2 := HR3.out.cell (i := 2) rfl
    have f0 := HR3.out.frozen
    clear hb3
    go_wp2
    have HE := ((HR3.out.set (i := 0) (.bool false)).set (i := 1) (.string n')).set (i := 2) (.string d')
    have e0 := HE.cell (i := 0) rfl
    have e1 := HE.cell (i := 1) rfl
    have e2 := HE.cell (i := 2) rfl
    refine bodyPost_ret (v := Value.agg #[.bool false, .string n', .string d']) ?_ rfl ⟨rfl, ((HB3.out.setCell (by simp) _).setCell (by simp) _).setCell (by simp) _⟩
    simp [results, Tryz.results35, go_sem, e0, e1, e2]
end Go.Proofs.YteggbpaljmopoaaGreat
/- Walks of ratios: add of numbers with signs. -/
namespace Go.Proofs.YteggbpaljmopoaaGreat
open Go.RowKit BF

/-- the world when two numbers with signs and a result have been boxed -/
theorem sadd_boxes (w : World) (s t : Bool) (a b : ByteArray) : ∃ W, ((w.alloc (.cells #[.bool s, .string a] 85)).alloc (.cells #[.bool t, .string b] 85)).alloc (.cells #[.bool false, .string { data := #[] }] 85) = W ∧
    Hid (Blk W w.heap.size 85 #[.bool s, .string a]) ∧ Hid (Blk W (w.heap.size + 1) 85 #[.bool t, .string b]) ∧ Hid (Blk W (w.heap.size + 1 + 1) 85 #[.bool false, .string { data := #[] }]) ∧ Hid (Below w.heap.size w W) :=
  ⟨_, rfl, ((Blk.new w _ _).alloc _).alloc _, (Blk.new' _ _ _ _ (by simp)).alloc _, Blk.new' _ _ _ _ (by simp), (((Below.refl _ w).alloc (Nat.le_refl _) _).alloc (by simp) _).alloc (by simp; omega) _⟩

set_option maxRecDepth 100000 in
set_option maxHeartbeats 1000000 in
theorem sadd_same (s : Bool) (x1 x2 : Nat) (h1 : small x1) (h2 : small x2) (h : small (x1 + x2)) (w : World) :
    Calls Tryz.prog 160 #[sV s (nat x1), sV s (nat x2)] w fun e w' => e = .returned (sV s (nat (x1 + x2))) ∧ Below w.heap.size w w' := by
  have HP : Hid (∀ w : World, Calls Tryz.prog 63 #[.string (nat x1), .string (nat x2)] w fun e w' => e = .returned (.string (nat (x1 + x2))) ∧ Below w.heap.size w w') := fun w => plus_ok x1 x2 h1 h2 h w
  clear h1 h2 h
  generalize nat (x1 + x2) = c at *
  generalize nat x1 = a at *
  generalize nat x2 = b at *
  unfold sV
  have hss : (s == s) = true := by simp
  go_enter Tryz.func160, Tryz.ntmps160
  go_wp2
  obtain ⟨W, hW, HA, HB, HR, HW⟩ := sadd_boxes w s s a b
  rw [hW]
  have a0 := HA.out.cell (i := 0) rfl
  have a1 := HA.out.cell (i := 1) rfl
  have b1 := HB.out.cell (i := 1) rfl
  have r0 := HR.out.cell (i := 0) rfl
  have r1 := HR.out.cell (i := 1) rfl
  have fr := HR.out.frozen
  have hsz := HR.out.lt
  clear hW
  go_region_held3 (fun w' => w'.cell? ⟨w.heap.size, 0, none⟩ = some (.bool s) ∧ w'.cell? ⟨w.heap.size, 1, none⟩ = some (.string a) ∧ w'.cell? ⟨w.heap.size + 1, 1, none⟩ = some (.string b)) (first | exact ⟨a0, a1, b1⟩ | exact ⟨c0, c1, d1⟩ | exact ⟨((HA1.out.other _ (by omega)).other _ (by omega)).cell (i := 0) rfl, ((HA1.out.other _ (by omega)).other _ (by omega)).cell (i := 1) rfl, ((HB1.out.other _ (by omega)).other _ (by omega)).cell (i := 1) rfl⟩) ((first | (go_at_call 63; refine (HP.out _).mono ?_; rintro e w1 ⟨rfl, hb⟩; have HR1 := Lib.hid (HR.out.drew.under hb); have HA1 := Lib.hid (HA.out.drew.under hb); have HB1 := Lib.hid (HB.out.drew.under hb); have c0 := HA1.out.cell (i := 0) rfl; have c1 := HA1.out.cell (i := 1) rfl; have d1 := HB1.out.cell (i := 1) rfl; have s0 := HR1.out.cell (i := 0) rfl; have s1 := HR1.out.cell (i := 1) rfl; have fs := HR1.out.frozen)))
  go_wp2
  have HE := (HR1.out.set (i := 0) (.bool s)).set (i := 1) (.string c)
  have e0 := HE.cell (i := 0) rfl
  have e1 := HE.cell (i := 1) rfl
  refine bodyPost_ret (v := .agg #[.bool s, .string c]) ?_ rfl ⟨rfl, ((HW.out.drew.trans (hb.mono (by have := HW.out.size; exact this))).setCell (by simp; omega) _).setCell (by simp; omega) _⟩
  simp [results, Tryz.results160, go_sem, e0, e1]
set_option maxRecDepth 100000 in
set_option maxHeartbeats 1000000 in
theorem sadd_fail (s : Bool) (x1 x2 : Nat) (h1 : small x1) (h2 : small x2) (h : ¬ small (x1 + x2)) (w : World) :
    Calls Tryz.prog 160 #[sV s (nat x1), sV s (nat x2)] w fun e w' => e = .panicked (failv 2) ∧ Below w.heap.size w w' := by
  have HP : Hid (∀ w : World, Calls Tryz.prog 63 #[.string (nat x1), .string (nat x2)] w fun e w' => e = .panicked (failv 2) ∧ Below w.heap.size w w') := fun w => plus_fail x1 x2 h1 h2 h w
  clear h1 h2 h
  generalize nat x1 = a at *
  generalize nat x2 = b at *
  unfold sV
  have hss : (s == s) = true := by simp
  go_enter Tryz.func160, Tryz.ntmps160
  go_wp2
  obtain ⟨W, hW, HA, HB, HR, HW⟩ := sadd_boxes w s s a b
  rw [hW]
  have a0 := HA.out.cell (i := 0) rfl
  have a1 := HA.out.cell (i := 1) rfl
  have b1 := HB.out.cell (i := 1) rfl
  have r0 := HR.out.cell (i := 0) rfl
  have r1 := HR.out.cell (i := 1) rfl
  have fr := HR.out.frozen
  have hsz := HR.out.lt
  clear hW
  refine wp_region_held_drew (S := fun w' => w'.cell? ⟨w.heap.size, 0, none⟩ = some (.bool s) ∧ w'.cell? ⟨w.heap.size, 1, none⟩ = some (.string a) ∧ w'.cell? ⟨w.heap.size + 1, 1, none⟩ = some (.string b)) (by kernel_rfl) ⟨a0, a1, b1⟩ (fun hHeld => ?_)
  refine wpAnyH_take (i := 0) (v := ?_) rfl (by kernel_rfl) (by kernel_rfl) (by kernel_rfl) (fun _ _ _ h => h) (Or.inl ⟨by rfl, ?_⟩) (by assumption) ?_
  rotate_left
  · intro w hSw; (try dsimp only at hSw); go_simp; try with_reducible rfl
  try simp only [Act.put, List.setIfInBounds_toArray, List.set_cons_zero, List.set_cons_succ]
  refine wpAnyH_take (i := 1) (v := ?_) rfl (by kernel_rfl) (by kernel_rfl) (by kernel_rfl) (fun _ _ _ h => h) (Or.inl ⟨by rfl, ?_⟩) (by assumption) ?_
  rotate_left
  · intro w hSw; (try dsimp only at hSw); go_simp; try with_reducible rfl
  try simp only [Act.put, List.setIfInBounds_toArray, List.set_cons_zero, List.set_cons_succ]
  refine wpAnyH_take (i := 2) (v := ?_) rfl (by kernel_rfl) (by kernel_rfl) (by kernel_rfl) (fun _ _ _ h => h) (Or.inl ⟨by rfl, ?_⟩) (by assumption) ?_
  rotate_left
  · intro w hSw; (try dsimp only at hSw); go_simp; try with_reducible rfl
  try simp only [Act.put, List.setIfInBounds_toArray, List.set_cons_zero, List.set_cons_succ]
  refine wpAnyH_take (i := 3) (v := ?_) rfl (by kernel_rfl) (by kernel_rfl) (by kernel_rfl) (fun _ _ _ h => h) (Or.inl ⟨by rfl, ?_⟩) (by assumption) ?_
  rotate_left
  · intro w hSw; (try dsimp only at hSw); go_simp; try with_reducible rfl
  try simp only [Act.put, List.setIfInBounds_toArray, List.set_cons_zero, List.set_cons_succ]
  refine wpAnyH_take (i := 4) (v := ?_) rfl (by kernel_rfl) (by kernel_rfl) (by kernel_rfl) (fun _ _ _ h => h) (Or.inl ⟨by rfl, ?_⟩) (by assumption) ?_
  rotate_left
  · intro w hSw; (try dsimp only at hSw); go_simp; try with_reducible rfl
  try simp only [Act.put, List.setIfInBounds_toArray, List.set_cons_zero, List.set_cons_succ]
  refine wpAnyH_take (i := 5) (v := ?_) rfl (by kernel_rfl) (by kernel_rfl) (by kernel_rfl) (fun _ _ _ h => h) (Or.inl ⟨by rfl, ?_⟩) (by assumption) ?_
  rotate_left
  · intro w hSw; (try dsimp only at hSw); go_simp; try with_reducible rfl
  try simp only [Act.put, List.setIfInBounds_toArray, List.set_cons_zero, List.set_cons_succ]
  refine wpAnyH_ready (rs := [6]) (by kernel_rfl) (by simp) ?_
  refine AllReadyH.cons rfl (fun K hK => ?_) ?_
  · go_simp
    refine (HP.out _).mono ?_
    rintro e w1 ⟨rfl, hb⟩
    exact ⟨rfl, rfl, HW.out.drew.trans (hb.mono HW.out.size)⟩
  exact AllReadyH.nil
set_option maxRecDepth 100000 in
set_option maxHeartbeats 1000000 in
theorem sadd_lt (s t : Bool) (hst : (s == t) = false) (x1 x2 : Nat) (h1 : small x1) (h2 : small x2) (h : x1 < x2) (w : World) :
    Calls Tryz.prog 160 #[sV s (nat x1), sV t (nat x2)] w fun e w' => e = .returned (sV t (nat (x2 - x1))) ∧ Below w.heap.size w w' := by
  have HL : Hid (∀ w : World, Calls Tryz.prog 207 #[.string (nat x1), .string (nat x2)] w fun e w' => e = .returned (.bool true) ∧ Below w.heap.size w w') := fun w => by
    have := rless_any x1 x2 h1 h2 w
    rw [decide_eq_true h] at this
    exact this
  have HP : Hid (∀ w : World, Calls Tryz.prog 208 #[.string (nat x2), .string (nat x1)] w fun e w' => e = .returned (.tuple #[.string (nat (x2 - x1)), .int .i64 0]) ∧ Below w.heap.size w w') := fun w => by
    have := Sub_any (nat x2) (nat x1) w (nat_le h2) (nat_le h1)
    have e := subS_nat h2 h1 (by omega)
    rw [e.1, e.2] at this
    exact this
  clear h1 h2 h
  generalize nat (x2 - x1) = c at *
  generalize nat x1 = a at *
  generalize nat x2 = b at *
  unfold sV
  go_enter Tryz.func160, Tryz.ntmps160
  go_wp2_with (fail)
  obtain ⟨W0, hW, HA, HB, HR, HW⟩ := sadd_boxes w s t a b
  rw [hW]
  refine (HL.out _).mono ?_
  rintro e W ⟨rfl, hb0⟩
  replace HA := Lib.hid (HA.out.under hb0)
  replace HB := Lib.hid (HB.out.under hb0)
  replace HR := Lib.hid (HR.out.under hb0)
  replace HW := Lib.hid (HW.out.trans (hb0.mono HW.out.size))
  have a0 := HB.out.cell (i := 0) rfl
  have a1 := HA.out.cell (i := 1) rfl
  have b1 := HB.out.cell (i := 1) rfl
  have r0 := HR.out.cell (i := 0) rfl
  have r1 := HR.out.cell (i := 1) rfl
  have fr := HR.out.frozen
  have hsz := HR.out.lt
  clear hW hb0
  go_wp2
  go_region_held3 (fun w' => w'.cell? ⟨w.heap.size + 1, 0, none⟩ = some (.bool t) ∧ w'.cell? ⟨w.heap.size, 1, none⟩ = some (.string a) ∧ w'.cell? ⟨w.heap.size + 1, 1, none⟩ = some (.string b)) (first | exact ⟨a0, a1, b1⟩ | exact ⟨c0, c1, d1⟩ | exact ⟨((C0.out.other _ (by omega)).other _ (by omega)).cell (i := 0) rfl, ((HA1.out.other _ (by omega)).other _ (by omega)).cell (i := 1) rfl, ((HB1.out.other _ (by omega)).other _ (by omega)).cell (i := 1) rfl⟩) ((first | (go_at_call 208; refine (HP.out _).mono ?_; rintro e w1 ⟨rfl, hb⟩; have HR1 := Lib.hid (HR.out.drew.under hb); have HA1 := Lib.hid (HA.out.drew.under hb); have HB1 := Lib.hid (HB.out.drew.under hb); have C0 := Lib.hid (HB.out.drew.under hb); have c0 := C0.out.cell (i := 0) rfl; have c1 := HA1.out.cell (i := 1) rfl; have d1 := HB1.out.cell (i := 1) rfl; have s0 := HR1.out.cell (i := 0) rfl; have s1 := HR1.out.cell (i := 1) rfl; have fs := HR1.out.frozen) | (go_at_call 61; refine (must_ok _ _).mono ?_; rintro e w1 ⟨rfl, rfl⟩)))
  go_wp2
  have HE := (HR1.out.set (i := 0) (.bool t)).set (i := 1) (.string c)
  have e0 := HE.cell (i := 0) rfl
  have e1 := HE.cell (i := 1) rfl
  refine bodyPost_ret (v := .agg #[.bool t, .string c]) ?_ rfl ⟨rfl, ((HW.out.drew.trans (hb.mono (by have := HW.out.size; exact this))).setCell (by simp; omega) _).setCell (by simp; omega) _⟩
  simp [results, Tryz.results160, go_sem, e0, e1]

set_option maxRecDepth 100000 in
set_option maxHeartbeats 1000000 in
theorem sadd_ge (s t : Bool) (hst : (s == t) = false) (x1 x2 : Nat) (h1 : small x1) (h2 : small x2) (h : ¬ x1 < x2) (w : World) :
    Calls Tryz.prog 160 #[sV s (nat x1), sV t (nat x2)] w fun e w' => e = .returned (sV s (nat (x1 - x2))) ∧ Below w.heap.size w w' := by
  have HL : Hid (∀ w : World, Calls Tryz.prog 207 #[.string (nat x1), .string (nat x2)] w fun e w' => e = .returned (.bool false) ∧ Below w.heap.size w w') := fun w => by
    have := rless_any x1 x2 h1 h2 w
    rw [decide_eq_false h] at this
    exact this
  have HP : Hid (∀ w : World, Calls Tryz.prog 208 #[.string (nat x1), .string (nat x2)] w fun e w' => e = .returned (.tuple #[.string (nat (x1 - x2)), .int .i64 0]) ∧ Below w.heap.size w w') := fun w => by
    have := Sub_any (nat x1) (nat x2) w (nat_le h1) (nat_le h2)
    have e := subS_nat h1 h2 (by omega)
    rw [e.1, e.2] at this
    exact this
  clear h1 h2 h
  generalize nat (x1 - x2) = c at *
  generalize nat x1 = a at *
  generalize nat x2 = b at *
  unfold sV
  go_enter Tryz.func160, Tryz.ntmps160
  go_wp2_with (fail)
  obtain ⟨W0, hW, HA, HB, HR, HW⟩ := sadd_boxes w s t a b
  rw [hW]
  refine (HL.out _).mono ?_
  rintro e W ⟨rfl, hb0⟩
  replace HA := Lib.hid (HA.out.under hb0)
  replace HB := Lib.hid (HB.out.under hb0)
  replace HR := Lib.hid (HR.out.under hb0)
  replace HW := Lib.hid (HW.out.trans (hb0.mono HW.out.size))
  have a0 := HA.out.cell (i := 0) rfl
  have a1 := HA.out.cell (i := 1) rfl
  have b1 := HB.out.cell (i := 1) rfl
  have r0 := HR.out.cell (i := 0) rfl
  have r1 := HR.out.cell (i := 1) rfl
  have fr := HR.out.frozen
  have hsz := HR.out.lt
  clear hW hb0
  go_wp2
  go_region_held3 (fun w' => w'.cell? ⟨w.heap.size, 0, none⟩ = some (.bool s) ∧ w'.cell? ⟨w.heap.size, 1, none⟩ = some (.string a) ∧ w'.cell? ⟨w.heap.size + 1, 1, none⟩ = some (.string b)) (first | exact ⟨a0, a1, b1⟩ | exact ⟨c0, c1, d1⟩ | exact ⟨((C0.out.other _ (by omega)).other _ (by omega)).cell (i := 0) rfl, ((HA1.out.other _ (by omega)).other _ (by omega)).cell (i := 1) rfl, ((HB1.out.other _ (by omega)).other _ (by omega)).cell (i := 1) rfl⟩) ((first | (go_at_call 208; refine (HP.out _).mono ?_; rintro e w1 ⟨rfl, hb⟩; have HR1 := Lib.hid (HR.out.drew.under hb); have HA1 := Lib.hid (HA.out.drew.under hb); have HB1 := Lib.hid (HB.out.drew.under hb); have C0 := Lib.hid (HA.out.drew.under hb); have c0 := C0.out.cell (i := 0) rfl; have c1 := HA1.out.cell (i := 1) rfl; have d1 := HB1.out.cell (i := 1) rfl; have s0 := HR1.out.cell (i := 0) rfl; have s1 := HR1.out.cell (i := 1) rfl; have fs := HR1.out.frozen) | (go_at_call 61; refine (must_ok _ _).mono ?_; rintro e w1 ⟨rfl, rfl⟩)))
  go_wp2
  have HE := (HR1.out.set (i := 0) (.bool s)).set (i := 1) (.string c)
  have e0 := HE.cell (i := 0) rfl
  have e1 := HE.cell (i := 1) rfl
  refine bodyPost_ret (v := .agg #[.bool s, .string c]) ?_ rfl ⟨rfl, ((HW.out.drew.trans (hb.mono (by have := HW.out.size; exact this))).setCell (by simp; omega) _).setCell (by simp; omega) _⟩
  simp [results, Tryz.results160, go_sem, e0, e1]
end Go.Proofs.YteggbpaljmopoaaGreat
/- Walks of ratios: Check, valid. -/
namespace Go.Proofs.YteggbpaljmopoaaGreat
open Go.RowKit BF

theorem isEmpty_of_size {s : ByteArray} (h : s.size = 0) : s.toList.isEmpty = true ∧ s.toList = [] := by
  have : s.toList = [] := by rw [ByteArray.toList_eq]; exact List.length_eq_zero_iff.1 h
  exact ⟨by simpa using this, this⟩
theorem nonEmpty_of_size {s : ByteArray} (h : s.size ≠ 0) : s.toList.isEmpty = false ∧ ¬ s.toList = [] := by
  have : ¬ s.toList = [] := by rw [ByteArray.toList_eq]; intro h2; exact h (by have := congrArg List.length h2; exact this)
  exact ⟨by simpa using this, this⟩
theorem nat_one_iff (g : Nat) : (nat g).toList = [1] ↔ g = 1 := by
  rw [ByteArray.toList_eq]
  show enc g = [1] ↔ g = 1
  constructor
  · intro h
    exact enc_inj (a := g) (b := 1) (by rw [h]; rfl)
  · intro h; subst h; rfl

def chkV (neg : Bool) (n d : ByteArray) : Int := if ratOk neg n d then 0 else 70

set_option maxRecDepth 100000 in
set_option maxHeartbeats 1000000 in
theorem RCheck_any (neg : Bool) (n d : ByteArray) (hn : n.size ≤ maxLen) (hd : d.size ≤ maxLen) (w : World) :
    Calls Tryz.prog 16 #[rV neg n d] w fun e w' => e = .returned (.int .i64 (chkV neg n d)) ∧ Below w.heap.size w w' := by
  have H1 : Hid (∀ w : World, Calls Tryz.prog 32 #[.string n] w fun e w' => e = .returned (.int .i64 (chk [n])) ∧ Below w.heap.size w w') := fun w => Check_any n w hn
  have H2 : Hid (∀ w : World, Calls Tryz.prog 32 #[.string d] w fun e w' => e = .returned (.int .i64 (chk [d])) ∧ Below w.heap.size w w') := fun w => Check_any d w hd
  have HA : Hid (Blk (w.alloc (.cells #[.bool neg, .string n, .string d] 25)) w.heap.size 25 #[.bool neg, .string n, .string d]) := Blk.new w _ _
  have HW : Hid (Below w.heap.size w (w.alloc (.cells #[.bool neg, .string n, .string d] 25))) := (Below.refl _ w).alloc (Nat.le_refl _) _
  unfold rV
  by_cases c1 : chk [n] = 0
  · rw [c1] at H1
    by_cases c2 : chk [d] = 0
    · rw [c2] at H2
      have hk2 := chk2_of c1 c2
      have HG : Hid (∀ w : World, Calls Tryz.prog 33 #[.string n, .string d] w fun e w' => e = .returned (.tuple #[.string (nat (Nat.gcd (val n) (val d))), .int .i64 0]) ∧ Below w.heap.size w w') := fun w => by
        have := Gcd_any n d w hn hd
        rw [hk2, show gcdS n d = nat (Nat.gcd (val n) (val d)) from if_pos hk2] at this
        exact this
      by_cases c3 : d.size = 0
      · have hv : chkV neg n d = 70 := by unfold chkV ratOk; simp [c3]
        rw [hv]
        obtain ⟨i1, i2⟩ := isEmpty_of_size c3
        clear c1 c2 hk2 c3 hv
        go_enter Tryz.func16, Tryz.ntmps16
        go_wp2_with (fail)
        refine (H1.out _).mono ?_
        rintro e w1 ⟨rfl, hb1⟩
        have a1 := (HA.out.under hb1).cell (i := 2) rfl
        have HA1 := Lib.hid (HA.out.under hb1)
        have HW1 := Lib.hid (HW.out.trans (hb1.mono HW.out.size))
        clear hb1
        go_wp2_with (fail)
        refine (H2.out _).mono ?_
        rintro e w2 ⟨rfl, hb2⟩
        have a2 := (HA1.out.under hb2).cell (i := 2) rfl
        have HW2 := Lib.hid (HW1.out.trans (hb2.mono HW1.out.size))
        clear hb2
        go_wp2
        go_ret
        exact ⟨rfl, HW2.out⟩
      · obtain ⟨i1, i2⟩ := nonEmpty_of_size c3
        have c3' : decide (d.size ≠ 0) = true := decide_eq_true c3
        by_cases c4 : neg = true ∧ n.size = 0
        · obtain ⟨rfl, c5⟩ := c4
          have hv : chkV true n d = 70 := by unfold chkV ratOk; simp [c5]
          rw [hv]
          obtain ⟨j1, j2⟩ := isEmpty_of_size c5
          clear c1 c2 hk2 c3 c3' c5 hv
          go_enter Tryz.func16, Tryz.ntmps16
          go_wp2_with (fail)
          refine (H1.out _).mono ?_
          rintro e w1 ⟨rfl, hb1⟩
          have a1 := (HA.out.under hb1).cell (i := 2) rfl
          have HA1 := Lib.hid (HA.out.under hb1)
          have HW1 := Lib.hid (HW.out.trans (hb1.mono HW.out.size))
          clear hb1
          go_wp2_with (fail)
          refine (H2.out _).mono ?_
          rintro e w2 ⟨rfl, hb2⟩
          have a2 := (HA1.out.under hb2).cell (i := 2) rfl
          have a3 := (HA1.out.under hb2).cell (i := 0) rfl
          have a4 := (HA1.out.under hb2).cell (i := 1) rfl
          have HW2 := Lib.hid (HW1.out.trans (hb2.mono HW1.out.size))
          clear hb2
          go_wp2
          go_ret
          exact ⟨rfl, HW2.out⟩
        · have hv : chkV neg n d = if Nat.gcd (val n) (val d) = 1 then 0 else 70 := by
            have c4' : (neg && decide (n.size = 0)) = false := by
              rw [Bool.eq_false_iff]; intro h; simp only [Bool.and_eq_true, decide_eq_true_eq] at h; exact c4 h
            unfold chkV ratOk
            rw [c4', c3', decide_eq_true c1, decide_eq_true c2]
            by_cases hg : Nat.gcd (val n) (val d) = 1
            · rw [decide_eq_true hg, if_pos hg]; rfl
            · rw [decide_eq_false hg, if_neg hg]; rfl
          have c6 : neg = false ∨ (neg = true ∧ n.toList.isEmpty = false ∧ ¬ n.toList = []) := by
            cases neg with
            | false => exact .inl rfl
            | true => exact .inr ⟨rfl, nonEmpty_of_size (fun h => c4 ⟨rfl, h⟩)⟩
          have hone := nat_one_iff (Nat.gcd (val n) (val d))
          have hv1 : (nat (Nat.gcd (val n) (val d))).toList = [1] → chkV neg n d = 0 := fun h => by rw [hv, if_pos (hone.1 h)]
          have hv2 : ¬ (nat (Nat.gcd (val n) (val d))).toList = [1] → chkV neg n d = 70 := fun h => by rw [hv, if_neg (fun h2 => h (hone.2 h2))]
          clear c1 c2 hk2 c3 c3' c4 hv hone
          generalize nat (Nat.gcd (val n) (val d)) = gs at *
          generalize chkV neg n d = R at *
          have hv3 : ((gs.toList == [1]) = true ∧ R = 0) ∨ ((gs.toList == [1]) = false ∧ R = 70) := by
            by_cases h1 : gs.toList = [1]
            · exact .inl ⟨by simpa using h1, hv1 h1⟩
            · exact .inr ⟨by simpa using h1, hv2 h1⟩
          rcases c6 with rfl | ⟨rfl, j1, j2⟩
          all_goals
            rcases hv3 with ⟨h1, rfl⟩ | ⟨h1, rfl⟩
            all_goals
              clear hv1 hv2
              go_enter Tryz.func16, Tryz.ntmps16
              go_wp2_with (fail)
              refine (H1.out _).mono ?_
              rintro e w1 ⟨rfl, hb1⟩
              have a1 := (HA.out.under hb1).cell (i := 2) rfl
              have HA1 := Lib.hid (HA.out.under hb1)
              have HW1 := Lib.hid (HW.out.trans (hb1.mono HW.out.size))
              clear hb1
              go_wp2_with (fail)
              refine (H2.out _).mono ?_
              rintro e w2 ⟨rfl, hb2⟩
              have a2 := (HA1.out.under hb2).cell (i := 2) rfl
              have a3 := (HA1.out.under hb2).cell (i := 0) rfl
              have a4 := (HA1.out.under hb2).cell (i := 1) rfl
              have HW2 := Lib.hid (HW1.out.trans (hb2.mono HW1.out.size))
              clear hb2
              go_wp2_with (fail)
              refine (HG.out _).mono ?_
              rintro e w3 ⟨rfl, hb3⟩
              have HW3 := Lib.hid (HW2.out.trans (hb3.mono HW2.out.size))
              clear hb3
              go_wp2
              go_ret
              exact ⟨rfl, HW3.out⟩
    · have hv : chkV neg n d = 70 := by unfold chkV ratOk; simp [c2]
      rw [hv]
      have c2' : (chk [d] != 0) = true := by simpa using c2
      generalize chk [d] = e2 at *
      clear c1 hv c2
      go_enter Tryz.func16, Tryz.ntmps16
      go_wp2_with (fail)
      refine (H1.out _).mono ?_
      rintro e w1 ⟨rfl, hb1⟩
      have a1 := (HA.out.under hb1).cell (i := 2) rfl
      have HW1 := Lib.hid (HW.out.trans (hb1.mono HW.out.size))
      clear hb1
      go_wp2_with (fail)
      refine (H2.out _).mono ?_
      rintro e w2 ⟨rfl, hb2⟩
      have HW2 := Lib.hid (HW1.out.trans (hb2.mono HW1.out.size))
      go_wp2
      go_ret
      exact ⟨rfl, HW2.out⟩
  · have hv : chkV neg n d = 70 := by unfold chkV ratOk; simp [c1]
    rw [hv]
    have c1' : (chk [n] != 0) = true := by simpa using c1
    generalize chk [n] = e1 at *
    clear hv c1
    go_enter Tryz.func16, Tryz.ntmps16
    go_wp2_with (fail)
    refine (H1.out _).mono ?_
    rintro e w1 ⟨rfl, hb1⟩
    have HW1 := Lib.hid (HW.out.trans (hb1.mono HW.out.size))
    clear hb1
    go_wp2
    go_ret
    exact ⟨rfl, HW1.out⟩
end Go.Proofs.YteggbpaljmopoaaGreat
/- Walks of ratios: New. -/
namespace Go.Proofs.YteggbpaljmopoaaGreat
open Go.RowKit BF

def newQ (n d : Int) : Rat := mkQ (decide (n < 0) != decide (d < 0)) n.natAbs d.natAbs

theorem small_int {n : Int} (h1 : -9223372036854775808 ≤ n) (h2 : n ≤ 9223372036854775807) : small n.natAbs := by
  rw [small_lt]
  exact Nat.lt_of_le_of_lt (show n.natAbs ≤ 9223372036854775808 by omega) (Nat.lt_of_lt_of_le (show 9223372036854775808 < 256 ^ 8 by decide) (Nat.pow_le_pow_right (by decide) (by decide)))

def zeroR : Value := .agg #[.bool false, .string { data := #[] }, .string { data := #[] }]

set_option maxHeartbeats 400000 in
theorem New_zero (n : Int) (w : World) :
    Calls Tryz.prog 18 #[.int .i64 n, .int .i64 0] w fun e w' => e = .returned (.tuple #[zeroR, .int .i64 71]) ∧ Below w.heap.size w w' := by
  unfold zeroR
  have HE : Hid (Blk (w.alloc (.cells #[.bool false, .string { data := #[] }, .string { data := #[] }] 25)) w.heap.size 25 #[.bool false, .string { data := #[] }, .string { data := #[] }]) := Blk.new w _ _
  go_enter Tryz.func18, Tryz.ntmps18
  go_wp2
  refine bodyPost_ret (v := .tuple #[.agg #[.bool false, .string { data := #[] }, .string { data := #[] }], .int .i64 71]) ?_ rfl ⟨rfl, (Below.refl _ w).alloc (Nat.le_refl _) _⟩
  simp [results, Tryz.results18, go_sem]

set_option maxRecDepth 100000 in
set_option maxHeartbeats 1000000 in
theorem New_any (n d : Int) (hd : d ≠ 0) (h1 : -9223372036854775808 ≤ n) (h2 : n ≤ 9223372036854775807) (h3 : -9223372036854775808 ≤ d) (h4 : d ≤ 9223372036854775807) (w : World) :
    Calls Tryz.prog 18 #[.int .i64 n, .int .i64 d] w fun e w' => e = .returned (.tuple #[qV (newQ n d), .int .i64 0]) ∧ Below w.heap.size w w' := by
  have HA1 : Hid (∀ w : World, Calls Tryz.prog 34 #[.int .i64 n] w fun e w' => e = .returned (.string (nat n.natAbs)) ∧ Below w.heap.size w w') := fun w => amount_any n h1 h2 w
  have HA2 : Hid (∀ w : World, Calls Tryz.prog 34 #[.int .i64 d] w fun e w' => e = .returned (.string (nat d.natAbs)) ∧ Below w.heap.size w w') := fun w => amount_any d h3 h4 w
  have HO : Hid (∀ w : World, Calls Tryz.prog 35 #[.agg #[.bool (decide (n < 0) != decide (d < 0)), .string (nat n.natAbs)], .string (nat d.natAbs)] w fun e w' => e = .returned (qV (newQ n d)) ∧ Below w.heap.size w w') :=
    fun w => over_any _ _ _ (small_int h1 h2) (small_int h3 h4) (by omega) w
  have hd0 : (d == 0) = false := by simpa using hd
  unfold qV rV at *
  generalize nat (newQ n d).num.natAbs = N at *
  generalize nat (newQ n d).den = D at *
  generalize decide (newQ n d < 0) = B0 at *
  generalize nat n.natAbs = a at *
  generalize nat d.natAbs = b at *
  have HE : Hid (Blk (w.alloc (.cells #[.bool false, .string { data := #[] }, .string { data := #[] }] 25)) w.heap.size 25 #[.bool false, .string { data := #[] }, .string { data := #[] }]) := Blk.new w _ _
  have HW : Hid (Below w.heap.size w (w.alloc (.cells #[.bool false, .string { data := #[] }, .string { data := #[] }] 25))) := (Below.refl _ w).alloc (Nat.le_refl _) _
  clear hd h1 h2 h3 h4
  go_enter Tryz.func18, Tryz.ntmps18
  go_wp2_with (fail)
  refine (HA1.out _).mono ?_
  rintro e w1 ⟨rfl, hb1⟩
  have HE1 := Lib.hid (HE.out.under hb1)
  have HW1 := Lib.hid (HW.out.trans (hb1.mono HW.out.size))
  clear hb1
  go_wp2_with (fail)
  refine (HA2.out _).mono ?_
  rintro e w2 ⟨rfl, hb2⟩
  have HE2 := Lib.hid (HE1.out.under hb2)
  have HW2 := Lib.hid (HW1.out.trans (hb2.mono HW1.out.size))
  clear hb2
  go_wp2_with (fail)
  refine (HO.out _).mono ?_
  rintro e w3 ⟨rfl, hb3⟩
  have HE3 := Lib.hid (HE2.out.under hb3)
  have HW3 := Lib.hid (HW2.out.trans (hb3.mono HW2.out.size))
  clear hb3
  have r0 := HE3.out.cell (i := 0) rfl
  have r1 := HE3.out.cell (i := 1) rfl
  have r2 := HE3.out.cell (i := 2) rfl
  have fr := HE3.out.frozen
  go_wp2
  have HF := ((HE3.out.set (i := 0) (.bool B0)).set (i := 1) (.string N)).set (i := 2) (.string D)
  have e0 := HF.cell (i := 0) rfl
  have e1 := HF.cell (i := 1) rfl
  have e2 := HF.cell (i := 2) rfl
  refine bodyPost_ret (v := .tuple #[.agg #[.bool B0, .string N, .string D], .int .i64 0]) ?_ rfl ⟨rfl, ((HW3.out.setCell (by simp) _).setCell (by simp) _).setCell (by simp) _⟩
  simp [results, Tryz.results18, go_sem, e0, e1, e2]
end Go.Proofs.YteggbpaljmopoaaGreat
/- Walks of ratios: valid. -/
namespace Go.Proofs.YteggbpaljmopoaaGreat
open Go.RowKit BF

/-- the post of 'valid': nothing happens if all are valid, else a panic -/
def ValidPost (w : World) (ok : Bool) (e : Ending) (w' : World) : Prop :=
  (ok = true ∧ e = .returned (.tuple #[]) ∨ ok = false ∧ e = .panicked (failv 70)) ∧ Below w.heap.size w w'

set_option maxRecDepth 100000 in
set_option maxHeartbeats 1000000 in
theorem valid_any (g cap : Nat) (b0 b1 : Bool) (n0 d0 n1 d1 : ByteArray) (hn0 : n0.size ≤ maxLen) (hd0 : d0.size ≤ maxLen) (hn1 : n1.size ≤ maxLen) (hd1 : d1.size ≤ maxLen) (w : World)
    (hB : Blk w g 25 #[.bool b0, .string n0, .string d0, .bool b1, .string n1, .string d1]) :
    Calls Tryz.prog 140 #[.slice (some ⟨g, 0, none⟩) 2 cap] w (ValidPost w (ratOk b0 n0 d0 && ratOk b1 n1 d1)) := by
  have HB := Lib.hid hB
  have hgs := hB.lt
  have HT0 : Hid (ratOk b0 n0 d0 = true → ∀ w : World, Calls Tryz.prog 16 #[.agg #[.bool b0, .string n0, .string d0]] w fun e w' => e = .returned (.int .i64 0) ∧ Below w.heap.size w w') := fun h w => by
    have := RCheck_any b0 n0 d0 hn0 hd0 w
    rwa [show chkV b0 n0 d0 = 0 from if_pos h] at this
  have HF0 : Hid (ratOk b0 n0 d0 = false → ∀ w : World, Calls Tryz.prog 16 #[.agg #[.bool b0, .string n0, .string d0]] w fun e w' => e = .returned (.int .i64 70) ∧ Below w.heap.size w w') := fun h w => by
    have := RCheck_any b0 n0 d0 hn0 hd0 w
    rwa [show chkV b0 n0 d0 = 70 by unfold chkV; rw [h]; rfl] at this
  have HT1 : Hid (ratOk b1 n1 d1 = true → ∀ w : World, Calls Tryz.prog 16 #[.agg #[.bool b1, .string n1, .string d1]] w fun e w' => e = .returned (.int .i64 0) ∧ Below w.heap.size w w') := fun h w => by
    have := RCheck_any b1 n1 d1 hn1 hd1 w
    rwa [show chkV b1 n1 d1 = 0 from if_pos h] at this
  have HF1 : Hid (ratOk b1 n1 d1 = false → ∀ w : World, Calls Tryz.prog 16 #[.agg #[.bool b1, .string n1, .string d1]] w fun e w' => e = .returned (.int .i64 70) ∧ Below w.heap.size w w') := fun h w => by
    have := RCheck_any b1 n1 d1 hn1 hd1 w
    rwa [show chkV b1 n1 d1 = 70 by unfold chkV; rw [h]; rfl] at this
  clear hB hn0 hd0 hn1 hd1
  generalize ratOk b0 n0 d0 = k0 at *
  generalize ratOk b1 n1 d1 = k1 at *
  go_enter Tryz.func140, Tryz.ntmps140
  go_wp2
  go_loopw [7] (fun i wr => (i = .int .i64 0 ∨ i = .int .i64 1 ∧ k0 = true ∨ i = .int .i64 2 ∧ k0 = true ∧ k1 = true) ∧ Hid (Below w.heap.size w wr)) (fun i _ => 2 - (intOf i).toNat)
  case atStart => exact ⟨.inl rfl, Below.refl _ _⟩
  case round =>
    obtain ⟨hi, HW⟩ := hrel
    have HBw := Lib.hid (HB.out.under HW.out)
    have hsz := HW.out.size
    rcases hi with rfl | ⟨rfl, HK0⟩ | ⟨rfl, HK0, HK1⟩
    · have c0 := HBw.out.cell (i := 0) rfl
      have c1 := HBw.out.cell (i := 1) rfl
      have c2 := HBw.out.cell (i := 2) rfl
      have HWA : Hid (Below w.heap.size w (wr.alloc (.cells #[.bool b0, .string n0, .string d0] 25))) := HW.out.alloc hsz _
      cases hk0 : k0 with
      | true =>
        have HT := Lib.hid (HT0.out hk0)
        have HK := Lib.hid hk0
        clear hk0
        go_wp2_with (fail)
        refine (HT.out _).mono ?_
        rintro e w1 ⟨rfl, hb⟩
        have HW1 := Lib.hid (HWA.out.trans (hb.mono HWA.out.size))
        clear hb
        go_wp2
        go_roundw
        case rel => exact ⟨.inr (.inl ⟨rfl, by first | exact HK.out | trivial⟩), HW1.out⟩
        case measure => simp [intOf]
      | false =>
        have HT := Lib.hid (HF0.out hk0)
        have HK := Lib.hid hk0
        clear hk0
        go_wp2_with (fail)
        refine (HT.out _).mono ?_
        rintro e w1 ⟨rfl, hb⟩
        have HW1 := Lib.hid (HWA.out.trans (hb.mono HWA.out.size))
        clear hb
        go_wp2
        exact ⟨rfl, .inr ⟨by simp, rfl⟩, HW1.out⟩
    · replace HK0 := Lib.hid HK0
      have c0 := HBw.out.cell (i := 3) rfl
      have c1 := HBw.out.cell (i := 4) rfl
      have c2 := HBw.out.cell (i := 5) rfl
      have HWA : Hid (Below w.heap.size w (wr.alloc (.cells #[.bool b1, .string n1, .string d1] 25))) := HW.out.alloc hsz _
      cases hk1 : k1 with
      | true =>
        have HT := Lib.hid (HT1.out hk1)
        have HK := Lib.hid hk1
        clear hk1
        go_wp2_with (fail)
        refine (HT.out _).mono ?_
        rintro e w1 ⟨rfl, hb⟩
        have HW1 := Lib.hid (HWA.out.trans (hb.mono HWA.out.size))
        clear hb
        go_wp2
        go_roundw
        case rel => exact ⟨.inr (.inr ⟨rfl, by first | exact HK0.out | trivial, by first | exact HK.out | trivial⟩), HW1.out⟩
        case measure => simp [intOf]
      | false =>
        have HT := Lib.hid (HF1.out hk1)
        have HK := Lib.hid hk1
        clear hk1
        go_wp2_with (fail)
        refine (HT.out _).mono ?_
        rintro e w1 ⟨rfl, hb⟩
        have HW1 := Lib.hid (HWA.out.trans (hb.mono HWA.out.size))
        clear hb
        go_wp2
        exact ⟨rfl, .inr ⟨by simp, rfl⟩, HW1.out⟩
    · replace HK0 := Lib.hid HK0
      replace HK1 := Lib.hid HK1
      go_wp2
      go_end0
      exact ⟨.inl ⟨by rw [HK0.out, HK1.out]; rfl, rfl⟩, HW.out⟩
end Go.Proofs.YteggbpaljmopoaaGreat
