/- The reference of layer 7. Conditions: those that each theorem states. -/
import Derived.Test.YteggbpaljmopoaaGreatRefB
import Derived.Test.YteggbpaljmopoaaGreatRatsD
import Derived.Test.YteggbpaljmopoaaGreatSane
set_option linter.unusedVariables false
set_option linter.unusedSimpArgs false
/- backflushref07: Check. PRINTED BY wip/gen_ref07.py -/
namespace Go.Proofs.YteggbpaljmopoaaGreat
open Go.RowKit BF

set_option maxRecDepth 100000 in
set_option maxHeartbeats 1000000 in
theorem r7Check_any (neg : Bool) (n d : ByteArray) (hn : n.size ≤ maxLen) (hd : d.size ≤ maxLen) (w : World) :
    Calls Tryz.prog 21 #[rV neg n d] w fun e w' => e = .returned (.int .i64 (chkV neg n d)) ∧ Below w.heap.size w w' := by
  have H1 : Hid (∀ w : World, Calls Tryz.prog 43 #[.string n] w fun e w' => e = .returned (.int .i64 (chk [n])) ∧ Below w.heap.size w w') := fun w => (rCheck_any n w hn).mono fun e w1 h => ⟨h.1, by rw [h.2]; exact Below.refl _ _⟩
  have H2 : Hid (∀ w : World, Calls Tryz.prog 43 #[.string d] w fun e w' => e = .returned (.int .i64 (chk [d])) ∧ Below w.heap.size w w') := fun w => (rCheck_any d w hd).mono fun e w1 h => ⟨h.1, by rw [h.2]; exact Below.refl _ _⟩
  have HA : Hid (Blk (w.alloc (.cells #[.bool neg, .string n, .string d] 25)) w.heap.size 25 #[.bool neg, .string n, .string d]) := Blk.new w _ _
  have HW : Hid (Below w.heap.size w (w.alloc (.cells #[.bool neg, .string n, .string d] 25))) := (Below.refl _ w).alloc (Nat.le_refl _) _
  unfold rV
  by_cases c1 : chk [n] = 0
  · rw [c1] at H1
    by_cases c2 : chk [d] = 0
    · rw [c2] at H2
      have hk2 := chk2_of c1 c2
      have HG : Hid (∀ w : World, Calls Tryz.prog 44 #[.string n, .string d] w fun e w' => e = .returned (.tuple #[.string (nat (Nat.gcd (val n) (val d))), .int .i64 0]) ∧ Below w.heap.size w w') := fun w => by
        obtain ⟨e1, s1⟩ := nat_of_ok c1
        obtain ⟨e2, s2⟩ := nat_of_ok c2
        have := rGcd_nat s1 s2 w
        rw [← e1, ← e2] at this
        exact this
      by_cases c3 : d.size = 0
      · have hv : chkV neg n d = 70 := by unfold chkV ratOk; simp [c3]
        rw [hv]
        obtain ⟨i1, i2⟩ := isEmpty_of_size c3
        clear c1 c2 hk2 c3 hv
        go_enter Tryz.func21, Tryz.ntmps21
        go_wp2_with (fail)
        refine (H1.out _).mono ?_
        rintro e w1 ⟨rfl, hb1⟩
        have a1 := (HA.out.under hb1).cell (i := 2) rfl
        have HA1 := Lib.hid (HA.out.under hb1)
        have HW1 := Lib.hid (HW.out.trans (hb1.mono HW.out.size))
        clear hb1
        go_wp2_with (fail)
        refine (H2.out _).mono ?_
        rintro e w2 ⟨rfl, hb2⟩
        have a2 := (HA1.out.under hb2).cell (i := 2) rfl
        have HW2 := Lib.hid (HW1.out.trans (hb2.mono HW1.out.size))
        clear hb2
        go_wp2
        go_ret
        exact ⟨rfl, HW2.out⟩
      · obtain ⟨i1, i2⟩ := nonEmpty_of_size c3
        have c3' : decide (d.size ≠ 0) = true := decide_eq_true c3
        by_cases c4 : neg = true ∧ n.size = 0
        · obtain ⟨rfl, c5⟩ := c4
          have hv : chkV true n d = 70 := by unfold chkV ratOk; simp [c5]
          rw [hv]
          obtain ⟨j1, j2⟩ := isEmpty_of_size c5
          clear c1 c2 hk2 c3 c3' c5 hv
          go_enter Tryz.func21, Tryz.ntmps21
          go_wp2_with (fail)
          refine (H1.out _).mono ?_
          rintro e w1 ⟨rfl, hb1⟩
          have a1 := (HA.out.under hb1).cell (i := 2) rfl
          have HA1 := Lib.hid (HA.out.under hb1)
          have HW1 := Lib.hid (HW.out.trans (hb1.mono HW.out.size))
          clear hb1
          go_wp2_with (fail)
          refine (H2.out _).mono ?_
          rintro e w2 ⟨rfl, hb2⟩
          have a2 := (HA1.out.under hb2).cell (i := 2) rfl
          have a3 := (HA1.out.under hb2).cell (i := 0) rfl
          have a4 := (HA1.out.under hb2).cell (i := 1) rfl
          have HW2 := Lib.hid (HW1.out.trans (hb2.mono HW1.out.size))
          clear hb2
          go_wp2
          go_ret
          exact ⟨rfl, HW2.out⟩
        · have hv : chkV neg n d = if Nat.gcd (val n) (val d) = 1 then 0 else 70 := by
            have c4' : (neg && decide (n.size = 0)) = false := by
              rw [Bool.eq_false_iff]; intro h; simp only [Bool.and_eq_true, decide_eq_true_eq] at h; exact c4 h
            unfold chkV ratOk
            rw [c4', c3', decide_eq_true c1, decide_eq_true c2]
            by_cases hg : Nat.gcd (val n) (val d) = 1
            · rw [decide_eq_true hg, if_pos hg]; rfl
            · rw [decide_eq_false hg, if_neg hg]; rfl
          have c6 : neg = false ∨ (neg = true ∧ n.toList.isEmpty = false ∧ ¬ n.toList = []) := by
            cases neg with
            | false => exact .inl rfl
            | true => exact .inr ⟨rfl, nonEmpty_of_size (fun h => c4 ⟨rfl, h⟩)⟩
          have hone := nat_one_iff (Nat.gcd (val n) (val d))
          have hv1 : (nat (Nat.gcd (val n) (val d))).toList = [1] → chkV neg n d = 0 := fun h => by rw [hv, if_pos (hone.1 h)]
          have hv2 : ¬ (nat (Nat.gcd (val n) (val d))).toList = [1] → chkV neg n d = 70 := fun h => by rw [hv, if_neg (fun h2 => h (hone.2 h2))]
          clear c1 c2 hk2 c3 c3' c4 hv hone
          generalize nat (Nat.gcd (val n) (val d)) = gs at *
          generalize chkV neg n d = R at *
          have hv3 : ((gs.toList == [1]) = true ∧ R = 0) ∨ ((gs.toList == [1]) = false ∧ R = 70) := by
            by_cases h1 : gs.toList = [1]
            · exact .inl ⟨by simpa using h1, hv1 h1⟩
            · exact .inr ⟨by simpa using h1, hv2 h1⟩
          rcases c6 with rfl | ⟨rfl, j1, j2⟩
          all_goals
            rcases hv3 with ⟨h1, rfl⟩ | ⟨h1, rfl⟩
            all_goals
              clear hv1 hv2
              go_enter Tryz.func21, Tryz.ntmps21
              go_wp2_with (fail)
              refine (H1.out _).mono ?_
              rintro e w1 ⟨rfl, hb1⟩
              have a1 := (HA.out.under hb1).cell (i := 2) rfl
              have HA1 := Lib.hid (HA.out.under hb1)
              have HW1 := Lib.hid (HW.out.trans (hb1.mono HW.out.size))
              clear hb1
              go_wp2_with (fail)
              refine (H2.out _).mono ?_
              rintro e w2 ⟨rfl, hb2⟩
              have a2 := (HA1.out.under hb2).cell (i := 2) rfl
              have a3 := (HA1.out.under hb2).cell (i := 0) rfl
              have a4 := (HA1.out.under hb2).cell (i := 1) rfl
              have HW2 := Lib.hid (HW1.out.trans (hb2.mono HW1.out.size))
              clear hb2
              go_wp2_with (fail)
              refine (HG.out _).mono ?_
              rintro e w3 ⟨rfl, hb3⟩
              have HW3 := Lib.hid (HW2.out.trans (hb3.mono HW2.out.size))
              clear hb3
              go_wp2
              go_ret
              exact ⟨rfl, HW3.out⟩
    · have hv : chkV neg n d = 70 := by unfold chkV ratOk; simp [c2]
      rw [hv]
      have c2' : (chk [d] != 0) = true := by simpa using c2
      generalize chk [d] = e2 at *
      clear c1 hv c2
      go_enter Tryz.func21, Tryz.ntmps21
      go_wp2_with (fail)
      refine (H1.out _).mono ?_
      rintro e w1 ⟨rfl, hb1⟩
      have a1 := (HA.out.under hb1).cell (i := 2) rfl
      have HW1 := Lib.hid (HW.out.trans (hb1.mono HW.out.size))
      clear hb1
      go_wp2_with (fail)
      refine (H2.out _).mono ?_
      rintro e w2 ⟨rfl, hb2⟩
      have HW2 := Lib.hid (HW1.out.trans (hb2.mono HW1.out.size))
      go_wp2
      go_ret
      exact ⟨rfl, HW2.out⟩
  · have hv : chkV neg n d = 70 := by unfold chkV ratOk; simp [c1]
    rw [hv]
    have c1' : (chk [n] != 0) = true := by simpa using c1
    generalize chk [n] = e1 at *
    clear hv c1
    go_enter Tryz.func21, Tryz.ntmps21
    go_wp2_with (fail)
    refine (H1.out _).mono ?_
    rintro e w1 ⟨rfl, hb1⟩
    have HW1 := Lib.hid (HW.out.trans (hb1.mono HW.out.size))
    clear hb1
    go_wp2
    go_ret
    exact ⟨rfl, HW1.out⟩
end Go.Proofs.YteggbpaljmopoaaGreat
/- backflushref07: lowest, Mul, Div. PRINTED BY wip/gen_ref07.py -/
namespace Go.Proofs.YteggbpaljmopoaaGreat
open Go.RowKit BF

theorem one_box (w : World) (z : Array Value) : ∃ W, w.alloc (.cells z 25) = W ∧ Hid (Blk W w.heap.size 25 z) ∧ Hid (Below w.heap.size w W) :=
  ⟨_, rfl, Blk.new w _ _, (Below.refl _ w).alloc (Nat.le_refl _) _⟩
set_option maxRecDepth 100000 in
set_option maxHeartbeats 1000000 in
theorem r7lowest_any (neg : Bool) (n d : Nat) (hn : small n) (hd : small d) (h0 : 0 < d) (w : World) :
    Calls Tryz.prog 45 #[.bool neg, .string (nat n), .string (nat d)] w fun e w' => e = .returned (qV (mkQ neg n d)) ∧ Below w.heap.size w w' := by
  obtain ⟨W0, hW0, HE, HW⟩ := one_box w #[.bool false, .string { data := #[] }, .string { data := #[] }]
  rw [qV_mkQ _ _ _ h0]
  rcases Nat.eq_zero_or_pos n with hz | hz
  · subst hz
    have e1 : nat (0 / Nat.gcd 0 d) = ({ data := #[] } : ByteArray) := by rw [Nat.zero_div]; rfl
    have e2 : nat (d / Nat.gcd 0 d) = ({ data := #[1] } : ByteArray) := by rw [Nat.gcd_zero_left, Nat.div_self h0]; rfl
    have e3 : (neg && decide (0 / Nat.gcd 0 d ≠ 0)) = false := by rw [Nat.zero_div]; simp
    have e4 : nat 0 = ({ data := #[] } : ByteArray) := rfl
    rw [e1, e2, e3, e4]
    unfold rV
    generalize nat d = D at *
    clear e1 e2 e3 e4 hn hd h0
    have r0 := HE.out.cell (i := 0) rfl
    have r1 := HE.out.cell (i := 1) rfl
    have r2 := HE.out.cell (i := 2) rfl
    have fr := HE.out.frozen
    go_enter Tryz.func45, Tryz.ntmps45
    go_wp2
    have HF := ((HE.out.set (i := 0) (.bool false)).set (i := 1) (.string { data := #[] })).set (i := 2) (.string { data := #[1] })
    have e0 := HF.cell (i := 0) rfl
    have e1 := HF.cell (i := 1) rfl
    have e2 := HF.cell (i := 2) rfl
    refine bodyPost_ret (v := .agg #[.bool false, .string { data := #[] }, .string { data := #[1] }]) ?_ rfl ⟨rfl, ((HW.out.setCell (by simp) _).setCell (by simp) _).setCell (by simp) _⟩
    rw [results_cell1 rfl]
    go_simp
  · have hg : 0 < Nat.gcd n d := Nat.gcd_pos_of_pos_left _ hz
    have hgs : small (Nat.gcd n d) := small_mono hn (Nat.le_of_dvd hz (Nat.gcd_dvd_left n d))
    have hq : n / Nat.gcd n d ≠ 0 := by
      have := Nat.div_pos (Nat.le_of_dvd hz (Nat.gcd_dvd_left n d)) hg
      omega
    rw [decide_eq_true hq, Bool.and_true]
    have HG := Lib.hid (fun w => rGcd_nat hn hd w)
    have HX := Lib.hid (fun w => rDiv_nat hn hgs hg w)
    have HY := Lib.hid (fun w => rDiv_nat hd hgs hg w)
    obtain ⟨i1, i2⟩ := nonEmpty_of_size (nat_size_pos hz)
    unfold rV
    generalize nat (n / Nat.gcd n d) = X at *
    generalize nat (d / Nat.gcd n d) = Y at *
    generalize nat (n % Nat.gcd n d) = X2 at *
    generalize nat (d % Nat.gcd n d) = Y2 at *
    generalize nat (Nat.gcd n d) = G at *
    generalize nat n = N at *
    generalize nat d = D at *
    clear hn hd h0 hz hg hgs hq
    go_enter Tryz.func45, Tryz.ntmps45
    go_wp2_with (fail)
    refine (HG.out _).mono ?_
    rintro e w1 ⟨rfl, hb1⟩
    have HE1 := Lib.hid (HE.out.under hb1)
    have HW1 := Lib.hid (HW.out.trans (hb1.mono HW.out.size))
    clear hb1
    go_wp2_with (fail)
    refine (HX.out _).mono ?_
    rintro e w2 ⟨rfl, hb2⟩
    have HE2 := Lib.hid (HE1.out.under hb2)
    have HW2 := Lib.hid (HW1.out.trans (hb2.mono HW1.out.size))
    clear hb2
    go_wp2_with (fail)
    refine (HY.out _).mono ?_
    rintro e w3 ⟨rfl, hb3⟩
    have HE3 := Lib.hid (HE2.out.under hb3)
    have HW3 := Lib.hid (HW2.out.trans (hb3.mono HW2.out.size))
    clear hb3
    have r0 := HE3.out.cell (i := 0) rfl
    have r1 := HE3.out.cell (i := 1) rfl
    have r2 := HE3.out.cell (i := 2) rfl
    have fr := HE3.out.frozen
    go_wp2
    have HF := ((HE3.out.set (i := 0) (.bool neg)).set (i := 1) (.string X)).set (i := 2) (.string Y)
    have e0 := HF.cell (i := 0) rfl
    have e1 := HF.cell (i := 1) rfl
    have e2 := HF.cell (i := 2) rfl
    refine bodyPost_ret (v := .agg #[.bool neg, .string X, .string Y]) ?_ rfl ⟨rfl, ((HW3.out.setCell (by simp) _).setCell (by simp) _).setCell (by simp) _⟩
    rw [results_cell1 rfl]
    go_simp
theorem three_boxes (w : World) (a b z : Array Value) : ∃ W, ((w.alloc (.cells a 25)).alloc (.cells b 25)).alloc (.cells z 25) = W ∧ Hid (Blk W w.heap.size 25 a) ∧ Hid (Blk W (w.heap.size + 1) 25 b) ∧ Hid (Blk W (w.heap.size + 2) 25 z) ∧ Hid (Below w.heap.size w W) := by
  have h1 := (Below.refl w.heap.size w).alloc (Nat.le_refl _) (.cells a 25)
  have h2 := h1.alloc h1.size (.cells b 25)
  have h3 := h2.alloc h2.size (.cells z 25)
  have e1 : (w.alloc (.cells a 25)).heap.size = w.heap.size + 1 := by simp
  have e2 : ((w.alloc (.cells a 25)).alloc (.cells b 25)).heap.size = w.heap.size + 2 := by simp
  refine ⟨_, rfl, ((Blk.new w 25 a).alloc _).alloc _, ?_, ?_, h3⟩
  · have := (Blk.new (w.alloc (.cells a 25)) 25 b).alloc (.cells z 25)
    rw [e1] at this
    exact this
  · have := Blk.new ((w.alloc (.cells a 25)).alloc (.cells b 25)) 25 z
    rw [e2] at this
    exact this
set_option maxRecDepth 100000 in
set_option maxHeartbeats 2000000 in
theorem r7mul_a (s t : Bool) (n d m c : ByteArray) (k : Int) (hk : (k != 0) = true)     (H1 : Hid (∀ w : World, Calls Tryz.prog 21 #[.agg #[.bool s, .string n, .string d]] w fun e w' => e = .returned (.int .i64 k) ∧ Below w.heap.size w w'))
    (w : World) : Calls Tryz.prog 25 #[.agg #[.bool s, .string n, .string d], .agg #[.bool t, .string m, .string c]] w fun e w' => e = .returned (.tuple #[.agg #[.bool false, .string { data := #[] }, .string { data := #[] }], .int .i64 70]) ∧ Below w.heap.size w w' := by
  obtain ⟨W0, hW0, HA0, HB0, HZ0, HW0⟩ := three_boxes w #[.bool s, .string n, .string d] #[.bool t, .string m, .string c] #[.bool false, .string { data := #[] }, .string { data := #[] }]
  have ca0_0 := HA0.out.cell (i := 0) rfl
  have ca1_0 := HA0.out.cell (i := 1) rfl
  have ca2_0 := HA0.out.cell (i := 2) rfl
  have cb0_0 := HB0.out.cell (i := 0) rfl
  have cb1_0 := HB0.out.cell (i := 1) rfl
  have cb2_0 := HB0.out.cell (i := 2) rfl
  have cz0_0 := HZ0.out.cell (i := 0) rfl
  have cz1_0 := HZ0.out.cell (i := 1) rfl
  have cz2_0 := HZ0.out.cell (i := 2) rfl
  have fz_0 := HZ0.out.frozen
  go_enter Tryz.func25, Tryz.ntmps25
  go_wp2_with (fail)
  clear ca0_0 ca1_0 ca2_0 cb0_0 cb1_0 cb2_0 cz0_0 cz1_0 cz2_0 fz_0
  refine (H1.out _).mono ?_
  rintro e w1 ⟨rfl, hb1⟩
  have HA1 := Lib.hid (HA0.out.under hb1)
  have HB1 := Lib.hid (HB0.out.under hb1)
  have HZ1 := Lib.hid (HZ0.out.under hb1)
  have HW1 := Lib.hid (HW0.out.trans (hb1.mono HW0.out.size))
  clear hb1
  have ca0_1 := HA1.out.cell (i := 0) rfl
  have ca1_1 := HA1.out.cell (i := 1) rfl
  have ca2_1 := HA1.out.cell (i := 2) rfl
  have cb0_1 := HB1.out.cell (i := 0) rfl
  have cb1_1 := HB1.out.cell (i := 1) rfl
  have cb2_1 := HB1.out.cell (i := 2) rfl
  have cz0_1 := HZ1.out.cell (i := 0) rfl
  have cz1_1 := HZ1.out.cell (i := 1) rfl
  have cz2_1 := HZ1.out.cell (i := 2) rfl
  have fz_1 := HZ1.out.frozen
  go_wp2_with (fail)
  have HF := ((HZ1.out.set (i := 0) (.bool false)).set (i := 1) (.string { data := #[] })).set (i := 2) (.string { data := #[] })
  have f0 := HF.cell (i := 0) rfl
  have f1 := HF.cell (i := 1) rfl
  have f2 := HF.cell (i := 2) rfl
  refine bodyPost_ret (v := .tuple #[.agg #[.bool false, .string { data := #[] }, .string { data := #[] }], .int .i64 70]) ?_ rfl ⟨rfl, ((HW1.out.setCell (by show w.heap.size ≤ w.heap.size + 2; omega) _).setCell (by show w.heap.size ≤ w.heap.size + 2; omega) _).setCell (by show w.heap.size ≤ w.heap.size + 2; omega) _⟩
  rw [results_cell_tmp rfl]
  go_simp
set_option maxRecDepth 100000 in
set_option maxHeartbeats 2000000 in
theorem r7mul_b (s t : Bool) (n d m c : ByteArray) (k : Int) (hk : (k != 0) = true)     (H1 : Hid (∀ w : World, Calls Tryz.prog 21 #[.agg #[.bool s, .string n, .string d]] w fun e w' => e = .returned (.int .i64 0) ∧ Below w.heap.size w w'))
    (H2 : Hid (∀ w : World, Calls Tryz.prog 21 #[.agg #[.bool t, .string m, .string c]] w fun e w' => e = .returned (.int .i64 k) ∧ Below w.heap.size w w'))
    (w : World) : Calls Tryz.prog 25 #[.agg #[.bool s, .string n, .string d], .agg #[.bool t, .string m, .string c]] w fun e w' => e = .returned (.tuple #[.agg #[.bool false, .string { data := #[] }, .string { data := #[] }], .int .i64 70]) ∧ Below w.heap.size w w' := by
  obtain ⟨W0, hW0, HA0, HB0, HZ0, HW0⟩ := three_boxes w #[.bool s, .string n, .string d] #[.bool t, .string m, .string c] #[.bool false, .string { data := #[] }, .string { data := #[] }]
  have ca0_0 := HA0.out.cell (i := 0) rfl
  have ca1_0 := HA0.out.cell (i := 1) rfl
  have ca2_0 := HA0.out.cell (i := 2) rfl
  have cb0_0 := HB0.out.cell (i := 0) rfl
  have cb1_0 := HB0.out.cell (i := 1) rfl
  have cb2_0 := HB0.out.cell (i := 2) rfl
  have cz0_0 := HZ0.out.cell (i := 0) rfl
  have cz1_0 := HZ0.out.cell (i := 1) rfl
  have cz2_0 := HZ0.out.cell (i := 2) rfl
  have fz_0 := HZ0.out.frozen
  go_enter Tryz.func25, Tryz.ntmps25
  go_wp2_with (fail)
  clear ca0_0 ca1_0 ca2_0 cb0_0 cb1_0 cb2_0 cz0_0 cz1_0 cz2_0 fz_0
  refine (H1.out _).mono ?_
  rintro e w1 ⟨rfl, hb1⟩
  have HA1 := Lib.hid (HA0.out.under hb1)
  have HB1 := Lib.hid (HB0.out.under hb1)
  have HZ1 := Lib.hid (HZ0.out.under hb1)
  have HW1 := Lib.hid (HW0.out.trans (hb1.mono HW0.out.size))
  clear hb1
  have ca0_1 := HA1.out.cell (i := 0) rfl
  have ca1_1 := HA1.out.cell (i := 1) rfl
  have ca2_1 := HA1.out.cell (i := 2) rfl
  have cb0_1 := HB1.out.cell (i := 0) rfl
  have cb1_1 := HB1.out.cell (i := 1) rfl
  have cb2_1 := HB1.out.cell (i := 2) rfl
  have cz0_1 := HZ1.out.cell (i := 0) rfl
  have cz1_1 := HZ1.out.cell (i := 1) rfl
  have cz2_1 := HZ1.out.cell (i := 2) rfl
  have fz_1 := HZ1.out.frozen
  go_wp2_with (fail)
  clear ca0_1 ca1_1 ca2_1 cb0_1 cb1_1 cb2_1 cz0_1 cz1_1 cz2_1 fz_1
  refine (H2.out _).mono ?_
  rintro e w2 ⟨rfl, hb2⟩
  have HA2 := Lib.hid (HA1.out.under hb2)
  have HB2 := Lib.hid (HB1.out.under hb2)
  have HZ2 := Lib.hid (HZ1.out.under hb2)
  have HW2 := Lib.hid (HW1.out.trans (hb2.mono HW1.out.size))
  clear hb2
  have ca0_2 := HA2.out.cell (i := 0) rfl
  have ca1_2 := HA2.out.cell (i := 1) rfl
  have ca2_2 := HA2.out.cell (i := 2) rfl
  have cb0_2 := HB2.out.cell (i := 0) rfl
  have cb1_2 := HB2.out.cell (i := 1) rfl
  have cb2_2 := HB2.out.cell (i := 2) rfl
  have cz0_2 := HZ2.out.cell (i := 0) rfl
  have cz1_2 := HZ2.out.cell (i := 1) rfl
  have cz2_2 := HZ2.out.cell (i := 2) rfl
  have fz_2 := HZ2.out.frozen
  go_wp2_with (fail)
  have HF := ((HZ2.out.set (i := 0) (.bool false)).set (i := 1) (.string { data := #[] })).set (i := 2) (.string { data := #[] })
  have f0 := HF.cell (i := 0) rfl
  have f1 := HF.cell (i := 1) rfl
  have f2 := HF.cell (i := 2) rfl
  refine bodyPost_ret (v := .tuple #[.agg #[.bool false, .string { data := #[] }, .string { data := #[] }], .int .i64 70]) ?_ rfl ⟨rfl, ((HW2.out.setCell (by show w.heap.size ≤ w.heap.size + 2; omega) _).setCell (by show w.heap.size ≤ w.heap.size + 2; omega) _).setCell (by show w.heap.size ≤ w.heap.size + 2; omega) _⟩
  rw [results_cell_tmp rfl]
  go_simp
set_option maxRecDepth 100000 in
set_option maxHeartbeats 2000000 in
theorem r7mul_e (s t : Bool) (n d m c : ByteArray) (k j : Int) (hk : (k != 0) = true) (x y : ByteArray)     (H1 : Hid (∀ w : World, Calls Tryz.prog 21 #[.agg #[.bool s, .string n, .string d]] w fun e w' => e = .returned (.int .i64 0) ∧ Below w.heap.size w w'))
    (H2 : Hid (∀ w : World, Calls Tryz.prog 21 #[.agg #[.bool t, .string m, .string c]] w fun e w' => e = .returned (.int .i64 0) ∧ Below w.heap.size w w'))
    (H3 : Hid (∀ w : World, Calls Tryz.prog 47 #[.string n, .string m] w fun e w' => e = .returned (.tuple #[.string x, .int .i64 k]) ∧ Below w.heap.size w w'))
    (H4 : Hid (∀ w : World, Calls Tryz.prog 47 #[.string d, .string c] w fun e w' => e = .returned (.tuple #[.string y, .int .i64 j]) ∧ Below w.heap.size w w'))
    (w : World) : Calls Tryz.prog 25 #[.agg #[.bool s, .string n, .string d], .agg #[.bool t, .string m, .string c]] w fun e w' => e = .returned (.tuple #[.agg #[.bool false, .string { data := #[] }, .string { data := #[] }], .int .i64 2]) ∧ Below w.heap.size w w' := by
  obtain ⟨W0, hW0, HA0, HB0, HZ0, HW0⟩ := three_boxes w #[.bool s, .string n, .string d] #[.bool t, .string m, .string c] #[.bool false, .string { data := #[] }, .string { data := #[] }]
  have ca0_0 := HA0.out.cell (i := 0) rfl
  have ca1_0 := HA0.out.cell (i := 1) rfl
  have ca2_0 := HA0.out.cell (i := 2) rfl
  have cb0_0 := HB0.out.cell (i := 0) rfl
  have cb1_0 := HB0.out.cell (i := 1) rfl
  have cb2_0 := HB0.out.cell (i := 2) rfl
  have cz0_0 := HZ0.out.cell (i := 0) rfl
  have cz1_0 := HZ0.out.cell (i := 1) rfl
  have cz2_0 := HZ0.out.cell (i := 2) rfl
  have fz_0 := HZ0.out.frozen
  go_enter Tryz.func25, Tryz.ntmps25
  go_wp2_with (fail)
  clear ca0_0 ca1_0 ca2_0 cb0_0 cb1_0 cb2_0 cz0_0 cz1_0 cz2_0 fz_0
  refine (H1.out _).mono ?_
  rintro e w1 ⟨rfl, hb1⟩
  have HA1 := Lib.hid (HA0.out.under hb1)
  have HB1 := Lib.hid (HB0.out.under hb1)
  have HZ1 := Lib.hid (HZ0.out.under hb1)
  have HW1 := Lib.hid (HW0.out.trans (hb1.mono HW0.out.size))
  clear hb1
  have ca0_1 := HA1.out.cell (i := 0) rfl
  have ca1_1 := HA1.out.cell (i := 1) rfl
  have ca2_1 := HA1.out.cell (i := 2) rfl
  have cb0_1 := HB1.out.cell (i := 0) rfl
  have cb1_1 := HB1.out.cell (i := 1) rfl
  have cb2_1 := HB1.out.cell (i := 2) rfl
  have cz0_1 := HZ1.out.cell (i := 0) rfl
  have cz1_1 := HZ1.out.cell (i := 1) rfl
  have cz2_1 := HZ1.out.cell (i := 2) rfl
  have fz_1 := HZ1.out.frozen
  go_wp2_with (fail)
  clear ca0_1 ca1_1 ca2_1 cb0_1 cb1_1 cb2_1 cz0_1 cz1_1 cz2_1 fz_1
  refine (H2.out _).mono ?_
  rintro e w2 ⟨rfl, hb2⟩
  have HA2 := Lib.hid (HA1.out.under hb2)
  have HB2 := Lib.hid (HB1.out.under hb2)
  have HZ2 := Lib.hid (HZ1.out.under hb2)
  have HW2 := Lib.hid (HW1.out.trans (hb2.mono HW1.out.size))
  clear hb2
  have ca0_2 := HA2.out.cell (i := 0) rfl
  have ca1_2 := HA2.out.cell (i := 1) rfl
  have ca2_2 := HA2.out.cell (i := 2) rfl
  have cb0_2 := HB2.out.cell (i := 0) rfl
  have cb1_2 := HB2.out.cell (i := 1) rfl
  have cb2_2 := HB2.out.cell (i := 2) rfl
  have cz0_2 := HZ2.out.cell (i := 0) rfl
  have cz1_2 := HZ2.out.cell (i := 1) rfl
  have cz2_2 := HZ2.out.cell (i := 2) rfl
  have fz_2 := HZ2.out.frozen
  go_wp2_with (fail)
  clear ca0_2 ca1_2 ca2_2 cb0_2 cb1_2 cb2_2 cz0_2 cz1_2 cz2_2 fz_2
  refine (H3.out _).mono ?_
  rintro e w3 ⟨rfl, hb3⟩
  have HA3 := Lib.hid (HA2.out.under hb3)
  have HB3 := Lib.hid (HB2.out.under hb3)
  have HZ3 := Lib.hid (HZ2.out.under hb3)
  have HW3 := Lib.hid (HW2.out.trans (hb3.mono HW2.out.size))
  clear hb3
  have ca0_3 := HA3.out.cell (i := 0) rfl
  have ca1_3 := HA3.out.cell (i := 1) rfl
  have ca2_3 := HA3.out.cell (i := 2) rfl
  have cb0_3 := HB3.out.cell (i := 0) rfl
  have cb1_3 := HB3.out.cell (i := 1) rfl
  have cb2_3 := HB3.out.cell (i := 2) rfl
  have cz0_3 := HZ3.out.cell (i := 0) rfl
  have cz1_3 := HZ3.out.cell (i := 1) rfl
  have cz2_3 := HZ3.out.cell (i := 2) rfl
  have fz_3 := HZ3.out.frozen
  go_wp2_with (fail)
  clear ca0_3 ca1_3 ca2_3 cb0_3 cb1_3 cb2_3 cz0_3 cz1_3 cz2_3 fz_3
  refine (H4.out _).mono ?_
  rintro e w4 ⟨rfl, hb4⟩
  have HA4 := Lib.hid (HA3.out.under hb4)
  have HB4 := Lib.hid (HB3.out.under hb4)
  have HZ4 := Lib.hid (HZ3.out.under hb4)
  have HW4 := Lib.hid (HW3.out.trans (hb4.mono HW3.out.size))
  clear hb4
  have ca0_4 := HA4.out.cell (i := 0) rfl
  have ca1_4 := HA4.out.cell (i := 1) rfl
  have ca2_4 := HA4.out.cell (i := 2) rfl
  have cb0_4 := HB4.out.cell (i := 0) rfl
  have cb1_4 := HB4.out.cell (i := 1) rfl
  have cb2_4 := HB4.out.cell (i := 2) rfl
  have cz0_4 := HZ4.out.cell (i := 0) rfl
  have cz1_4 := HZ4.out.cell (i := 1) rfl
  have cz2_4 := HZ4.out.cell (i := 2) rfl
  have fz_4 := HZ4.out.frozen
  go_wp2_with (fail)
  have HF := ((HZ4.out.set (i := 0) (.bool false)).set (i := 1) (.string { data := #[] })).set (i := 2) (.string { data := #[] })
  have f0 := HF.cell (i := 0) rfl
  have f1 := HF.cell (i := 1) rfl
  have f2 := HF.cell (i := 2) rfl
  refine bodyPost_ret (v := .tuple #[.agg #[.bool false, .string { data := #[] }, .string { data := #[] }], .int .i64 2]) ?_ rfl ⟨rfl, ((HW4.out.setCell (by show w.heap.size ≤ w.heap.size + 2; omega) _).setCell (by show w.heap.size ≤ w.heap.size + 2; omega) _).setCell (by show w.heap.size ≤ w.heap.size + 2; omega) _⟩
  rw [results_cell_tmp rfl]
  go_simp
set_option maxRecDepth 100000 in
set_option maxHeartbeats 2000000 in
theorem r7mul_f (s t : Bool) (n d m c : ByteArray) (k : Int) (hk : (k != 0) = true) (x y : ByteArray)     (H1 : Hid (∀ w : World, Calls Tryz.prog 21 #[.agg #[.bool s, .string n, .string d]] w fun e w' => e = .returned (.int .i64 0) ∧ Below w.heap.size w w'))
    (H2 : Hid (∀ w : World, Calls Tryz.prog 21 #[.agg #[.bool t, .string m, .string c]] w fun e w' => e = .returned (.int .i64 0) ∧ Below w.heap.size w w'))
    (H3 : Hid (∀ w : World, Calls Tryz.prog 47 #[.string n, .string m] w fun e w' => e = .returned (.tuple #[.string x, .int .i64 0]) ∧ Below w.heap.size w w'))
    (H4 : Hid (∀ w : World, Calls Tryz.prog 47 #[.string d, .string c] w fun e w' => e = .returned (.tuple #[.string y, .int .i64 k]) ∧ Below w.heap.size w w'))
    (w : World) : Calls Tryz.prog 25 #[.agg #[.bool s, .string n, .string d], .agg #[.bool t, .string m, .string c]] w fun e w' => e = .returned (.tuple #[.agg #[.bool false, .string { data := #[] }, .string { data := #[] }], .int .i64 2]) ∧ Below w.heap.size w w' := by
  obtain ⟨W0, hW0, HA0, HB0, HZ0, HW0⟩ := three_boxes w #[.bool s, .string n, .string d] #[.bool t, .string m, .string c] #[.bool false, .string { data := #[] }, .string { data := #[] }]
  have ca0_0 := HA0.out.cell (i := 0) rfl
  have ca1_0 := HA0.out.cell (i := 1) rfl
  have ca2_0 := HA0.out.cell (i := 2) rfl
  have cb0_0 := HB0.out.cell (i := 0) rfl
  have cb1_0 := HB0.out.cell (i := 1) rfl
  have cb2_0 := HB0.out.cell (i := 2) rfl
  have cz0_0 := HZ0.out.cell (i := 0) rfl
  have cz1_0 := HZ0.out.cell (i := 1) rfl
  have cz2_0 := HZ0.out.cell (i := 2) rfl
  have fz_0 := HZ0.out.frozen
  go_enter Tryz.func25, Tryz.ntmps25
  go_wp2_with (fail)
  clear ca0_0 ca1_0 ca2_0 cb0_0 cb1_0 cb2_0 cz0_0 cz1_0 cz2_0 fz_0
  refine (H1.out _).mono ?_
  rintro e w1 ⟨rfl, hb1⟩
  have HA1 := Lib.hid (HA0.out.under hb1)
  have HB1 := Lib.hid (HB0.out.under hb1)
  have HZ1 := Lib.hid (HZ0.out.under hb1)
  have HW1 := Lib.hid (HW0.out.trans (hb1.mono HW0.out.size))
  clear hb1
  have ca0_1 := HA1.out.cell (i := 0) rfl
  have ca1_1 := HA1.out.cell (i := 1) rfl
  have ca2_1 := HA1.out.cell (i := 2) rfl
  have cb0_1 := HB1.out.cell (i := 0) rfl
  have cb1_1 := HB1.out.cell (i := 1) rfl
  have cb2_1 := HB1.out.cell (i := 2) rfl
  have cz0_1 := HZ1.out.cell (i := 0) rfl
  have cz1_1 := HZ1.out.cell (i := 1) rfl
  have cz2_1 := HZ1.out.cell (i := 2) rfl
  have fz_1 := HZ1.out.frozen
  go_wp2_with (fail)
  clear ca0_1 ca1_1 ca2_1 cb0_1 cb1_1 cb2_1 cz0_1 cz1_1 cz2_1 fz_1
  refine (H2.out _).mono ?_
  rintro e w2 ⟨rfl, hb2⟩
  have HA2 := Lib.hid (HA1.out.under hb2)
  have HB2 := Lib.hid (HB1.out.under hb2)
  have HZ2 := Lib.hid (HZ1.out.under hb2)
  have HW2 := Lib.hid (HW1.out.trans (hb2.mono HW1.out.size))
  clear hb2
  have ca0_2 := HA2.out.cell (i := 0) rfl
  have ca1_2 := HA2.out.cell (i := 1) rfl
  have ca2_2 := HA2.out.cell (i := 2) rfl
  have cb0_2 := HB2.out.cell (i := 0) rfl
  have cb1_2 := HB2.out.cell (i := 1) rfl
  have cb2_2 := HB2.out.cell (i := 2) rfl
  have cz0_2 := HZ2.out.cell (i := 0) rfl
  have cz1_2 := HZ2.out.cell (i := 1) rfl
  have cz2_2 := HZ2.out.cell (i := 2) rfl
  have fz_2 := HZ2.out.frozen
  go_wp2_with (fail)
  clear ca0_2 ca1_2 ca2_2 cb0_2 cb1_2 cb2_2 cz0_2 cz1_2 cz2_2 fz_2
  refine (H3.out _).mono ?_
  rintro e w3 ⟨rfl, hb3⟩
  have HA3 := Lib.hid (HA2.out.under hb3)
  have HB3 := Lib.hid (HB2.out.under hb3)
  have HZ3 := Lib.hid (HZ2.out.under hb3)
  have HW3 := Lib.hid (HW2.out.trans (hb3.mono HW2.out.size))
  clear hb3
  have ca0_3 := HA3.out.cell (i := 0) rfl
  have ca1_3 := HA3.out.cell (i := 1) rfl
  have ca2_3 := HA3.out.cell (i := 2) rfl
  have cb0_3 := HB3.out.cell (i := 0) rfl
  have cb1_3 := HB3.out.cell (i := 1) rfl
  have cb2_3 := HB3.out.cell (i := 2) rfl
  have cz0_3 := HZ3.out.cell (i := 0) rfl
  have cz1_3 := HZ3.out.cell (i := 1) rfl
  have cz2_3 := HZ3.out.cell (i := 2) rfl
  have fz_3 := HZ3.out.frozen
  go_wp2_with (fail)
  clear ca0_3 ca1_3 ca2_3 cb0_3 cb1_3 cb2_3 cz0_3 cz1_3 cz2_3 fz_3
  refine (H4.out _).mono ?_
  rintro e w4 ⟨rfl, hb4⟩
  have HA4 := Lib.hid (HA3.out.under hb4)
  have HB4 := Lib.hid (HB3.out.under hb4)
  have HZ4 := Lib.hid (HZ3.out.under hb4)
  have HW4 := Lib.hid (HW3.out.trans (hb4.mono HW3.out.size))
  clear hb4
  have ca0_4 := HA4.out.cell (i := 0) rfl
  have ca1_4 := HA4.out.cell (i := 1) rfl
  have ca2_4 := HA4.out.cell (i := 2) rfl
  have cb0_4 := HB4.out.cell (i := 0) rfl
  have cb1_4 := HB4.out.cell (i := 1) rfl
  have cb2_4 := HB4.out.cell (i := 2) rfl
  have cz0_4 := HZ4.out.cell (i := 0) rfl
  have cz1_4 := HZ4.out.cell (i := 1) rfl
  have cz2_4 := HZ4.out.cell (i := 2) rfl
  have fz_4 := HZ4.out.frozen
  go_wp2_with (fail)
  have HF := ((HZ4.out.set (i := 0) (.bool false)).set (i := 1) (.string { data := #[] })).set (i := 2) (.string { data := #[] })
  have f0 := HF.cell (i := 0) rfl
  have f1 := HF.cell (i := 1) rfl
  have f2 := HF.cell (i := 2) rfl
  refine bodyPost_ret (v := .tuple #[.agg #[.bool false, .string { data := #[] }, .string { data := #[] }], .int .i64 2]) ?_ rfl ⟨rfl, ((HW4.out.setCell (by show w.heap.size ≤ w.heap.size + 2; omega) _).setCell (by show w.heap.size ≤ w.heap.size + 2; omega) _).setCell (by show w.heap.size ≤ w.heap.size + 2; omega) _⟩
  rw [results_cell_tmp rfl]
  go_simp
set_option maxRecDepth 100000 in
set_option maxHeartbeats 2000000 in
theorem r7mul_g (s t : Bool) (n d m c : ByteArray) (x y : ByteArray) (rb : Bool) (rn rd : ByteArray)     (H1 : Hid (∀ w : World, Calls Tryz.prog 21 #[.agg #[.bool s, .string n, .string d]] w fun e w' => e = .returned (.int .i64 0) ∧ Below w.heap.size w w'))
    (H2 : Hid (∀ w : World, Calls Tryz.prog 21 #[.agg #[.bool t, .string m, .string c]] w fun e w' => e = .returned (.int .i64 0) ∧ Below w.heap.size w w'))
    (H3 : Hid (∀ w : World, Calls Tryz.prog 47 #[.string n, .string m] w fun e w' => e = .returned (.tuple #[.string x, .int .i64 0]) ∧ Below w.heap.size w w'))
    (H4 : Hid (∀ w : World, Calls Tryz.prog 47 #[.string d, .string c] w fun e w' => e = .returned (.tuple #[.string y, .int .i64 0]) ∧ Below w.heap.size w w'))
    (H5 : Hid (∀ w : World, Calls Tryz.prog 45 #[.bool (s != t), .string x, .string y] w fun e w' => e = .returned (.agg #[.bool rb, .string rn, .string rd]) ∧ Below w.heap.size w w'))
    (w : World) : Calls Tryz.prog 25 #[.agg #[.bool s, .string n, .string d], .agg #[.bool t, .string m, .string c]] w fun e w' => e = .returned (.tuple #[.agg #[.bool rb, .string rn, .string rd], .int .i64 0]) ∧ Below w.heap.size w w' := by
  obtain ⟨W0, hW0, HA0, HB0, HZ0, HW0⟩ := three_boxes w #[.bool s, .string n, .string d] #[.bool t, .string m, .string c] #[.bool false, .string { data := #[] }, .string { data := #[] }]
  have ca0_0 := HA0.out.cell (i := 0) rfl
  have ca1_0 := HA0.out.cell (i := 1) rfl
  have ca2_0 := HA0.out.cell (i := 2) rfl
  have cb0_0 := HB0.out.cell (i := 0) rfl
  have cb1_0 := HB0.out.cell (i := 1) rfl
  have cb2_0 := HB0.out.cell (i := 2) rfl
  have cz0_0 := HZ0.out.cell (i := 0) rfl
  have cz1_0 := HZ0.out.cell (i := 1) rfl
  have cz2_0 := HZ0.out.cell (i := 2) rfl
  have fz_0 := HZ0.out.frozen
  go_enter Tryz.func25, Tryz.ntmps25
  go_wp2_with (fail)
  clear ca0_0 ca1_0 ca2_0 cb0_0 cb1_0 cb2_0 cz0_0 cz1_0 cz2_0 fz_0
  refine (H1.out _).mono ?_
  rintro e w1 ⟨rfl, hb1⟩
  have HA1 := Lib.hid (HA0.out.under hb1)
  have HB1 := Lib.hid (HB0.out.under hb1)
  have HZ1 := Lib.hid (HZ0.out.under hb1)
  have HW1 := Lib.hid (HW0.out.trans (hb1.mono HW0.out.size))
  clear hb1
  have ca0_1 := HA1.out.cell (i := 0) rfl
  have ca1_1 := HA1.out.cell (i := 1) rfl
  have ca2_1 := HA1.out.cell (i := 2) rfl
  have cb0_1 := HB1.out.cell (i := 0) rfl
  have cb1_1 := HB1.out.cell (i := 1) rfl
  have cb2_1 := HB1.out.cell (i := 2) rfl
  have cz0_1 := HZ1.out.cell (i := 0) rfl
  have cz1_1 := HZ1.out.cell (i := 1) rfl
  have cz2_1 := HZ1.out.cell (i := 2) rfl
  have fz_1 := HZ1.out.frozen
  go_wp2_with (fail)
  clear ca0_1 ca1_1 ca2_1 cb0_1 cb1_1 cb2_1 cz0_1 cz1_1 cz2_1 fz_1
  refine (H2.out _).mono ?_
  rintro e w2 ⟨rfl, hb2⟩
  have HA2 := Lib.hid (HA1.out.under hb2)
  have HB2 := Lib.hid (HB1.out.under hb2)
  have HZ2 := Lib.hid (HZ1.out.under hb2)
  have HW2 := Lib.hid (HW1.out.trans (hb2.mono HW1.out.size))
  clear hb2
  have ca0_2 := HA2.out.cell (i := 0) rfl
  have ca1_2 := HA2.out.cell (i := 1) rfl
  have ca2_2 := HA2.out.cell (i := 2) rfl
  have cb0_2 := HB2.out.cell (i := 0) rfl
  have cb1_2 := HB2.out.cell (i := 1) rfl
  have cb2_2 := HB2.out.cell (i := 2) rfl
  have cz0_2 := HZ2.out.cell (i := 0) rfl
  have cz1_2 := HZ2.out.cell (i := 1) rfl
  have cz2_2 := HZ2.out.cell (i := 2) rfl
  have fz_2 := HZ2.out.frozen
  go_wp2_with (fail)
  clear ca0_2 ca1_2 ca2_2 cb0_2 cb1_2 cb2_2 cz0_2 cz1_2 cz2_2 fz_2
  refine (H3.out _).mono ?_
  rintro e w3 ⟨rfl, hb3⟩
  have HA3 := Lib.hid (HA2.out.under hb3)
  have HB3 := Lib.hid (HB2.out.under hb3)
  have HZ3 := Lib.hid (HZ2.out.under hb3)
  have HW3 := Lib.hid (HW2.out.trans (hb3.mono HW2.out.size))
  clear hb3
  have ca0_3 := HA3.out.cell (i := 0) rfl
  have ca1_3 := HA3.out.cell (i := 1) rfl
  have ca2_3 := HA3.out.cell (i := 2) rfl
  have cb0_3 := HB3.out.cell (i := 0) rfl
  have cb1_3 := HB3.out.cell (i := 1) rfl
  have cb2_3 := HB3.out.cell (i := 2) rfl
  have cz0_3 := HZ3.out.cell (i := 0) rfl
  have cz1_3 := HZ3.out.cell (i := 1) rfl
  have cz2_3 := HZ3.out.cell (i := 2) rfl
  have fz_3 := HZ3.out.frozen
  go_wp2_with (fail)
  clear ca0_3 ca1_3 ca2_3 cb0_3 cb1_3 cb2_3 cz0_3 cz1_3 cz2_3 fz_3
  refine (H4.out _).mono ?_
  rintro e w4 ⟨rfl, hb4⟩
  have HA4 := Lib.hid (HA3.out.under hb4)
  have HB4 := Lib.hid (HB3.out.under hb4)
  have HZ4 := Lib.hid (HZ3.out.under hb4)
  have HW4 := Lib.hid (HW3.out.trans (hb4.mono HW3.out.size))
  clear hb4
  have ca0_4 := HA4.out.cell (i := 0) rfl
  have ca1_4 := HA4.out.cell (i := 1) rfl
  have ca2_4 := HA4.out.cell (i := 2) rfl
  have cb0_4 := HB4.out.cell (i := 0) rfl
  have cb1_4 := HB4.out.cell (i := 1) rfl
  have cb2_4 := HB4.out.cell (i := 2) rfl
  have cz0_4 := HZ4.out.cell (i := 0) rfl
  have cz1_4 := HZ4.out.cell (i := 1) rfl
  have cz2_4 := HZ4.out.cell (i := 2) rfl
  have fz_4 := HZ4.out.frozen
  go_wp2_with (fail)
  clear ca0_4 ca1_4 ca2_4 cb0_4 cb1_4 cb2_4 cz0_4 cz1_4 cz2_4 fz_4
  refine (H5.out _).mono ?_
  rintro e w5 ⟨rfl, hb5⟩
  have HA5 := Lib.hid (HA4.out.under hb5)
  have HB5 := Lib.hid (HB4.out.under hb5)
  have HZ5 := Lib.hid (HZ4.out.under hb5)
  have HW5 := Lib.hid (HW4.out.trans (hb5.mono HW4.out.size))
  clear hb5
  have ca0_5 := HA5.out.cell (i := 0) rfl
  have ca1_5 := HA5.out.cell (i := 1) rfl
  have ca2_5 := HA5.out.cell (i := 2) rfl
  have cb0_5 := HB5.out.cell (i := 0) rfl
  have cb1_5 := HB5.out.cell (i := 1) rfl
  have cb2_5 := HB5.out.cell (i := 2) rfl
  have cz0_5 := HZ5.out.cell (i := 0) rfl
  have cz1_5 := HZ5.out.cell (i := 1) rfl
  have cz2_5 := HZ5.out.cell (i := 2) rfl
  have fz_5 := HZ5.out.frozen
  go_wp2_with (fail)
  have HF := ((HZ5.out.set (i := 0) (.bool rb)).set (i := 1) (.string rn)).set (i := 2) (.string rd)
  have f0 := HF.cell (i := 0) rfl
  have f1 := HF.cell (i := 1) rfl
  have f2 := HF.cell (i := 2) rfl
  refine bodyPost_ret (v := .tuple #[.agg #[.bool rb, .string rn, .string rd], .int .i64 0]) ?_ rfl ⟨rfl, ((HW5.out.setCell (by show w.heap.size ≤ w.heap.size + 2; omega) _).setCell (by show w.heap.size ≤ w.heap.size + 2; omega) _).setCell (by show w.heap.size ≤ w.heap.size + 2; omega) _⟩
  rw [results_cell_tmp rfl]
  go_simp
set_option maxRecDepth 100000 in
set_option maxHeartbeats 2000000 in
theorem r7div_a (s t : Bool) (n d m c : ByteArray) (k : Int) (hk : (k != 0) = true)     (H1 : Hid (∀ w : World, Calls Tryz.prog 21 #[.agg #[.bool s, .string n, .string d]] w fun e w' => e = .returned (.int .i64 k) ∧ Below w.heap.size w w'))
    (w : World) : Calls Tryz.prog 24 #[.agg #[.bool s, .string n, .string d], .agg #[.bool t, .string m, .string c]] w fun e w' => e = .returned (.tuple #[.agg #[.bool false, .string { data := #[] }, .string { data := #[] }], .int .i64 70]) ∧ Below w.heap.size w w' := by
  obtain ⟨W0, hW0, HA0, HB0, HZ0, HW0⟩ := three_boxes w #[.bool s, .string n, .string d] #[.bool t, .string m, .string c] #[.bool false, .string { data := #[] }, .string { data := #[] }]
  have ca0_0 := HA0.out.cell (i := 0) rfl
  have ca1_0 := HA0.out.cell (i := 1) rfl
  have ca2_0 := HA0.out.cell (i := 2) rfl
  have cb0_0 := HB0.out.cell (i := 0) rfl
  have cb1_0 := HB0.out.cell (i := 1) rfl
  have cb2_0 := HB0.out.cell (i := 2) rfl
  have cz0_0 := HZ0.out.cell (i := 0) rfl
  have cz1_0 := HZ0.out.cell (i := 1) rfl
  have cz2_0 := HZ0.out.cell (i := 2) rfl
  have fz_0 := HZ0.out.frozen
  go_enter Tryz.func24, Tryz.ntmps24
  go_wp2_with (fail)
  clear ca0_0 ca1_0 ca2_0 cb0_0 cb1_0 cb2_0 cz0_0 cz1_0 cz2_0 fz_0
  refine (H1.out _).mono ?_
  rintro e w1 ⟨rfl, hb1⟩
  have HA1 := Lib.hid (HA0.out.under hb1)
  have HB1 := Lib.hid (HB0.out.under hb1)
  have HZ1 := Lib.hid (HZ0.out.under hb1)
  have HW1 := Lib.hid (HW0.out.trans (hb1.mono HW0.out.size))
  clear hb1
  have ca0_1 := HA1.out.cell (i := 0) rfl
  have ca1_1 := HA1.out.cell (i := 1) rfl
  have ca2_1 := HA1.out.cell (i := 2) rfl
  have cb0_1 := HB1.out.cell (i := 0) rfl
  have cb1_1 := HB1.out.cell (i := 1) rfl
  have cb2_1 := HB1.out.cell (i := 2) rfl
  have cz0_1 := HZ1.out.cell (i := 0) rfl
  have cz1_1 := HZ1.out.cell (i := 1) rfl
  have cz2_1 := HZ1.out.cell (i := 2) rfl
  have fz_1 := HZ1.out.frozen
  go_wp2_with (fail)
  have HF := ((HZ1.out.set (i := 0) (.bool false)).set (i := 1) (.string { data := #[] })).set (i := 2) (.string { data := #[] })
  have f0 := HF.cell (i := 0) rfl
  have f1 := HF.cell (i := 1) rfl
  have f2 := HF.cell (i := 2) rfl
  refine bodyPost_ret (v := .tuple #[.agg #[.bool false, .string { data := #[] }, .string { data := #[] }], .int .i64 70]) ?_ rfl ⟨rfl, ((HW1.out.setCell (by show w.heap.size ≤ w.heap.size + 2; omega) _).setCell (by show w.heap.size ≤ w.heap.size + 2; omega) _).setCell (by show w.heap.size ≤ w.heap.size + 2; omega) _⟩
  rw [results_cell_tmp rfl]
  go_simp
set_option maxRecDepth 100000 in
set_option maxHeartbeats 2000000 in
theorem r7div_b (s t : Bool) (n d m c : ByteArray) (k : Int) (hk : (k != 0) = true)     (H1 : Hid (∀ w : World, Calls Tryz.prog 21 #[.agg #[.bool s, .string n, .string d]] w fun e w' => e = .returned (.int .i64 0) ∧ Below w.heap.size w w'))
    (H2 : Hid (∀ w : World, Calls Tryz.prog 21 #[.agg #[.bool t, .string m, .string c]] w fun e w' => e = .returned (.int .i64 k) ∧ Below w.heap.size w w'))
    (w : World) : Calls Tryz.prog 24 #[.agg #[.bool s, .string n, .string d], .agg #[.bool t, .string m, .string c]] w fun e w' => e = .returned (.tuple #[.agg #[.bool false, .string { data := #[] }, .string { data := #[] }], .int .i64 70]) ∧ Below w.heap.size w w' := by
  obtain ⟨W0, hW0, HA0, HB0, HZ0, HW0⟩ := three_boxes w #[.bool s, .string n, .string d] #[.bool t, .string m, .string c] #[.bool false, .string { data := #[] }, .string { data := #[] }]
  have ca0_0 := HA0.out.cell (i := 0) rfl
  have ca1_0 := HA0.out.cell (i := 1) rfl
  have ca2_0 := HA0.out.cell (i := 2) rfl
  have cb0_0 := HB0.out.cell (i := 0) rfl
  have cb1_0 := HB0.out.cell (i := 1) rfl
  have cb2_0 := HB0.out.cell (i := 2) rfl
  have cz0_0 := HZ0.out.cell (i := 0) rfl
  have cz1_0 := HZ0.out.cell (i := 1) rfl
  have cz2_0 := HZ0.out.cell (i := 2) rfl
  have fz_0 := HZ0.out.frozen
  go_enter Tryz.func24, Tryz.ntmps24
  go_wp2_with (fail)
  clear ca0_0 ca1_0 ca2_0 cb0_0 cb1_0 cb2_0 cz0_0 cz1_0 cz2_0 fz_0
  refine (H1.out _).mono ?_
  rintro e w1 ⟨rfl, hb1⟩
  have HA1 := Lib.hid (HA0.out.under hb1)
  have HB1 := Lib.hid (HB0.out.under hb1)
  have HZ1 := Lib.hid (HZ0.out.under hb1)
  have HW1 := Lib.hid (HW0.out.trans (hb1.mono HW0.out.size))
  clear hb1
  have ca0_1 := HA1.out.cell (i := 0) rfl
  have ca1_1 := HA1.out.cell (i := 1) rfl
  have ca2_1 := HA1.out.cell (i := 2) rfl
  have cb0_1 := HB1.out.cell (i := 0) rfl
  have cb1_1 := HB1.out.cell (i := 1) rfl
  have cb2_1 := HB1.out.cell (i := 2) rfl
  have cz0_1 := HZ1.out.cell (i := 0) rfl
  have cz1_1 := HZ1.out.cell (i := 1) rfl
  have cz2_1 := HZ1.out.cell (i := 2) rfl
  have fz_1 := HZ1.out.frozen
  go_wp2_with (fail)
  clear ca0_1 ca1_1 ca2_1 cb0_1 cb1_1 cb2_1 cz0_1 cz1_1 cz2_1 fz_1
  refine (H2.out _).mono ?_
  rintro e w2 ⟨rfl, hb2⟩
  have HA2 := Lib.hid (HA1.out.under hb2)
  have HB2 := Lib.hid (HB1.out.under hb2)
  have HZ2 := Lib.hid (HZ1.out.under hb2)
  have HW2 := Lib.hid (HW1.out.trans (hb2.mono HW1.out.size))
  clear hb2
  have ca0_2 := HA2.out.cell (i := 0) rfl
  have ca1_2 := HA2.out.cell (i := 1) rfl
  have ca2_2 := HA2.out.cell (i := 2) rfl
  have cb0_2 := HB2.out.cell (i := 0) rfl
  have cb1_2 := HB2.out.cell (i := 1) rfl
  have cb2_2 := HB2.out.cell (i := 2) rfl
  have cz0_2 := HZ2.out.cell (i := 0) rfl
  have cz1_2 := HZ2.out.cell (i := 1) rfl
  have cz2_2 := HZ2.out.cell (i := 2) rfl
  have fz_2 := HZ2.out.frozen
  go_wp2_with (fail)
  have HF := ((HZ2.out.set (i := 0) (.bool false)).set (i := 1) (.string { data := #[] })).set (i := 2) (.string { data := #[] })
  have f0 := HF.cell (i := 0) rfl
  have f1 := HF.cell (i := 1) rfl
  have f2 := HF.cell (i := 2) rfl
  refine bodyPost_ret (v := .tuple #[.agg #[.bool false, .string { data := #[] }, .string { data := #[] }], .int .i64 70]) ?_ rfl ⟨rfl, ((HW2.out.setCell (by show w.heap.size ≤ w.heap.size + 2; omega) _).setCell (by show w.heap.size ≤ w.heap.size + 2; omega) _).setCell (by show w.heap.size ≤ w.heap.size + 2; omega) _⟩
  rw [results_cell_tmp rfl]
  go_simp
set_option maxRecDepth 100000 in
set_option maxHeartbeats 2000000 in
theorem r7div_z (s t : Bool) (n d m c : ByteArray) (i1 : m.toList = []) (i2 : m.toList.isEmpty = true)     (H1 : Hid (∀ w : World, Calls Tryz.prog 21 #[.agg #[.bool s, .string n, .string d]] w fun e w' => e = .returned (.int .i64 0) ∧ Below w.heap.size w w'))
    (H2 : Hid (∀ w : World, Calls Tryz.prog 21 #[.agg #[.bool t, .string m, .string c]] w fun e w' => e = .returned (.int .i64 0) ∧ Below w.heap.size w w'))
    (w : World) : Calls Tryz.prog 24 #[.agg #[.bool s, .string n, .string d], .agg #[.bool t, .string m, .string c]] w fun e w' => e = .returned (.tuple #[.agg #[.bool false, .string { data := #[] }, .string { data := #[] }], .int .i64 71]) ∧ Below w.heap.size w w' := by
  obtain ⟨W0, hW0, HA0, HB0, HZ0, HW0⟩ := three_boxes w #[.bool s, .string n, .string d] #[.bool t, .string m, .string c] #[.bool false, .string { data := #[] }, .string { data := #[] }]
  have ca0_0 := HA0.out.cell (i := 0) rfl
  have ca1_0 := HA0.out.cell (i := 1) rfl
  have ca2_0 := HA0.out.cell (i := 2) rfl
  have cb0_0 := HB0.out.cell (i := 0) rfl
  have cb1_0 := HB0.out.cell (i := 1) rfl
  have cb2_0 := HB0.out.cell (i := 2) rfl
  have cz0_0 := HZ0.out.cell (i := 0) rfl
  have cz1_0 := HZ0.out.cell (i := 1) rfl
  have cz2_0 := HZ0.out.cell (i := 2) rfl
  have fz_0 := HZ0.out.frozen
  go_enter Tryz.func24, Tryz.ntmps24
  go_wp2_with (fail)
  clear ca0_0 ca1_0 ca2_0 cb0_0 cb1_0 cb2_0 cz0_0 cz1_0 cz2_0 fz_0
  refine (H1.out _).mono ?_
  rintro e w1 ⟨rfl, hb1⟩
  have HA1 := Lib.hid (HA0.out.under hb1)
  have HB1 := Lib.hid (HB0.out.under hb1)
  have HZ1 := Lib.hid (HZ0.out.under hb1)
  have HW1 := Lib.hid (HW0.out.trans (hb1.mono HW0.out.size))
  clear hb1
  have ca0_1 := HA1.out.cell (i := 0) rfl
  have ca1_1 := HA1.out.cell (i := 1) rfl
  have ca2_1 := HA1.out.cell (i := 2) rfl
  have cb0_1 := HB1.out.cell (i := 0) rfl
  have cb1_1 := HB1.out.cell (i := 1) rfl
  have cb2_1 := HB1.out.cell (i := 2) rfl
  have cz0_1 := HZ1.out.cell (i := 0) rfl
  have cz1_1 := HZ1.out.cell (i := 1) rfl
  have cz2_1 := HZ1.out.cell (i := 2) rfl
  have fz_1 := HZ1.out.frozen
  go_wp2_with (fail)
  clear ca0_1 ca1_1 ca2_1 cb0_1 cb1_1 cb2_1 cz0_1 cz1_1 cz2_1 fz_1
  refine (H2.out _).mono ?_
  rintro e w2 ⟨rfl, hb2⟩
  have HA2 := Lib.hid (HA1.out.under hb2)
  have HB2 := Lib.hid (HB1.out.under hb2)
  have HZ2 := Lib.hid (HZ1.out.under hb2)
  have HW2 := Lib.hid (HW1.out.trans (hb2.mono HW1.out.size))
  clear hb2
  have ca0_2 := HA2.out.cell (i := 0) rfl
  have ca1_2 := HA2.out.cell (i := 1) rfl
  have ca2_2 := HA2.out.cell (i := 2) rfl
  have cb0_2 := HB2.out.cell (i := 0) rfl
  have cb1_2 := HB2.out.cell (i := 1) rfl
  have cb2_2 := HB2.out.cell (i := 2) rfl
  have cz0_2 := HZ2.out.cell (i := 0) rfl
  have cz1_2 := HZ2.out.cell (i := 1) rfl
  have cz2_2 := HZ2.out.cell (i := 2) rfl
  have fz_2 := HZ2.out.frozen
  go_wp2_with (fail)
  have HF := ((HZ2.out.set (i := 0) (.bool false)).set (i := 1) (.string { data := #[] })).set (i := 2) (.string { data := #[] })
  have f0 := HF.cell (i := 0) rfl
  have f1 := HF.cell (i := 1) rfl
  have f2 := HF.cell (i := 2) rfl
  refine bodyPost_ret (v := .tuple #[.agg #[.bool false, .string { data := #[] }, .string { data := #[] }], .int .i64 71]) ?_ rfl ⟨rfl, ((HW2.out.setCell (by show w.heap.size ≤ w.heap.size + 2; omega) _).setCell (by show w.heap.size ≤ w.heap.size + 2; omega) _).setCell (by show w.heap.size ≤ w.heap.size + 2; omega) _⟩
  rw [results_cell_tmp rfl]
  go_simp
set_option maxRecDepth 100000 in
set_option maxHeartbeats 2000000 in
theorem r7div_e (s t : Bool) (n d m c : ByteArray) (k j : Int) (hk : (k != 0) = true) (x y : ByteArray) (i1 : ¬ m.toList = []) (i2 : m.toList.isEmpty = false)     (H1 : Hid (∀ w : World, Calls Tryz.prog 21 #[.agg #[.bool s, .string n, .string d]] w fun e w' => e = .returned (.int .i64 0) ∧ Below w.heap.size w w'))
    (H2 : Hid (∀ w : World, Calls Tryz.prog 21 #[.agg #[.bool t, .string m, .string c]] w fun e w' => e = .returned (.int .i64 0) ∧ Below w.heap.size w w'))
    (H3 : Hid (∀ w : World, Calls Tryz.prog 47 #[.string n, .string c] w fun e w' => e = .returned (.tuple #[.string x, .int .i64 k]) ∧ Below w.heap.size w w'))
    (H4 : Hid (∀ w : World, Calls Tryz.prog 47 #[.string d, .string m] w fun e w' => e = .returned (.tuple #[.string y, .int .i64 j]) ∧ Below w.heap.size w w'))
    (w : World) : Calls Tryz.prog 24 #[.agg #[.bool s, .string n, .string d], .agg #[.bool t, .string m, .string c]] w fun e w' => e = .returned (.tuple #[.agg #[.bool false, .string { data := #[] }, .string { data := #[] }], .int .i64 2]) ∧ Below w.heap.size w w' := by
  obtain ⟨W0, hW0, HA0, HB0, HZ0, HW0⟩ := three_boxes w #[.bool s, .string n, .string d] #[.bool t, .string m, .string c] #[.bool false, .string { data := #[] }, .string { data := #[] }]
  have ca0_0 := HA0.out.cell (i := 0) rfl
  have ca1_0 := HA0.out.cell (i := 1) rfl
  have ca2_0 := HA0.out.cell (i := 2) rfl
  have cb0_0 := HB0.out.cell (i := 0) rfl
  have cb1_0 := HB0.out.cell (i := 1) rfl
  have cb2_0 := HB0.out.cell (i := 2) rfl
  have cz0_0 := HZ0.out.cell (i := 0) rfl
  have cz1_0 := HZ0.out.cell (i := 1) rfl
  have cz2_0 := HZ0.out.cell (i := 2) rfl
  have fz_0 := HZ0.out.frozen
  go_enter Tryz.func24, Tryz.ntmps24
  go_wp2_with (fail)
  clear ca0_0 ca1_0 ca2_0 cb0_0 cb1_0 cb2_0 cz0_0 cz1_0 cz2_0 fz_0
  refine (H1.out _).mono ?_
  rintro e w1 ⟨rfl, hb1⟩
  have HA1 := Lib.hid (HA0.out.under hb1)
  have HB1 := Lib.hid (HB0.out.under hb1)
  have HZ1 := Lib.hid (HZ0.out.under hb1)
  have HW1 := Lib.hid (HW0.out.trans (hb1.mono HW0.out.size))
  clear hb1
  have ca0_1 := HA1.out.cell (i := 0) rfl
  have ca1_1 := HA1.out.cell (i := 1) rfl
  have ca2_1 := HA1.out.cell (i := 2) rfl
  have cb0_1 := HB1.out.cell (i := 0) rfl
  have cb1_1 := HB1.out.cell (i := 1) rfl
  have cb2_1 := HB1.out.cell (i := 2) rfl
  have cz0_1 := HZ1.out.cell (i := 0) rfl
  have cz1_1 := HZ1.out.cell (i := 1) rfl
  have cz2_1 := HZ1.out.cell (i := 2) rfl
  have fz_1 := HZ1.out.frozen
  go_wp2_with (fail)
  clear ca0_1 ca1_1 ca2_1 cb0_1 cb1_1 cb2_1 cz0_1 cz1_1 cz2_1 fz_1
  refine (H2.out _).mono ?_
  rintro e w2 ⟨rfl, hb2⟩
  have HA2 := Lib.hid (HA1.out.under hb2)
  have HB2 := Lib.hid (HB1.out.under hb2)
  have HZ2 := Lib.hid (HZ1.out.under hb2)
  have HW2 := Lib.hid (HW1.out.trans (hb2.mono HW1.out.size))
  clear hb2
  have ca0_2 := HA2.out.cell (i := 0) rfl
  have ca1_2 := HA2.out.cell (i := 1) rfl
  have ca2_2 := HA2.out.cell (i := 2) rfl
  have cb0_2 := HB2.out.cell (i := 0) rfl
  have cb1_2 := HB2.out.cell (i := 1) rfl
  have cb2_2 := HB2.out.cell (i := 2) rfl
  have cz0_2 := HZ2.out.cell (i := 0) rfl
  have cz1_2 := HZ2.out.cell (i := 1) rfl
  have cz2_2 := HZ2.out.cell (i := 2) rfl
  have fz_2 := HZ2.out.frozen
  go_wp2_with (fail)
  clear ca0_2 ca1_2 ca2_2 cb0_2 cb1_2 cb2_2 cz0_2 cz1_2 cz2_2 fz_2
  refine (H3.out _).mono ?_
  rintro e w3 ⟨rfl, hb3⟩
  have HA3 := Lib.hid (HA2.out.under hb3)
  have HB3 := Lib.hid (HB2.out.under hb3)
  have HZ3 := Lib.hid (HZ2.out.under hb3)
  have HW3 := Lib.hid (HW2.out.trans (hb3.mono HW2.out.size))
  clear hb3
  have ca0_3 := HA3.out.cell (i := 0) rfl
  have ca1_3 := HA3.out.cell (i := 1) rfl
  have ca2_3 := HA3.out.cell (i := 2) rfl
  have cb0_3 := HB3.out.cell (i := 0) rfl
  have cb1_3 := HB3.out.cell (i := 1) rfl
  have cb2_3 := HB3.out.cell (i := 2) rfl
  have cz0_3 := HZ3.out.cell (i := 0) rfl
  have cz1_3 := HZ3.out.cell (i := 1) rfl
  have cz2_3 := HZ3.out.cell (i := 2) rfl
  have fz_3 := HZ3.out.frozen
  go_wp2_with (fail)
  clear ca0_3 ca1_3 ca2_3 cb0_3 cb1_3 cb2_3 cz0_3 cz1_3 cz2_3 fz_3
  refine (H4.out _).mono ?_
  rintro e w4 ⟨rfl, hb4⟩
  have HA4 := Lib.hid (HA3.out.under hb4)
  have HB4 := Lib.hid (HB3.out.under hb4)
  have HZ4 := Lib.hid (HZ3.out.under hb4)
  have HW4 := Lib.hid (HW3.out.trans (hb4.mono HW3.out.size))
  clear hb4
  have ca0_4 := HA4.out.cell (i := 0) rfl
  have ca1_4 := HA4.out.cell (i := 1) rfl
  have ca2_4 := HA4.out.cell (i := 2) rfl
  have cb0_4 := HB4.out.cell (i := 0) rfl
  have cb1_4 := HB4.out.cell (i := 1) rfl
  have cb2_4 := HB4.out.cell (i := 2) rfl
  have cz0_4 := HZ4.out.cell (i := 0) rfl
  have cz1_4 := HZ4.out.cell (i := 1) rfl
  have cz2_4 := HZ4.out.cell (i := 2) rfl
  have fz_4 := HZ4.out.frozen
  go_wp2_with (fail)
  have HF := ((HZ4.out.set (i := 0) (.bool false)).set (i := 1) (.string { data := #[] })).set (i := 2) (.string { data := #[] })
  have f0 := HF.cell (i := 0) rfl
  have f1 := HF.cell (i := 1) rfl
  have f2 := HF.cell (i := 2) rfl
  refine bodyPost_ret (v := .tuple #[.agg #[.bool false, .string { data := #[] }, .string { data := #[] }], .int .i64 2]) ?_ rfl ⟨rfl, ((HW4.out.setCell (by show w.heap.size ≤ w.heap.size + 2; omega) _).setCell (by show w.heap.size ≤ w.heap.size + 2; omega) _).setCell (by show w.heap.size ≤ w.heap.size + 2; omega) _⟩
  rw [results_cell_tmp rfl]
  go_simp
set_option maxRecDepth 100000 in
set_option maxHeartbeats 2000000 in
theorem r7div_f (s t : Bool) (n d m c : ByteArray) (k : Int) (hk : (k != 0) = true) (x y : ByteArray) (i1 : ¬ m.toList = []) (i2 : m.toList.isEmpty = false)     (H1 : Hid (∀ w : World, Calls Tryz.prog 21 #[.agg #[.bool s, .string n, .string d]] w fun e w' => e = .returned (.int .i64 0) ∧ Below w.heap.size w w'))
    (H2 : Hid (∀ w : World, Calls Tryz.prog 21 #[.agg #[.bool t, .string m, .string c]] w fun e w' => e = .returned (.int .i64 0) ∧ Below w.heap.size w w'))
    (H3 : Hid (∀ w : World, Calls Tryz.prog 47 #[.string n, .string c] w fun e w' => e = .returned (.tuple #[.string x, .int .i64 0]) ∧ Below w.heap.size w w'))
    (H4 : Hid (∀ w : World, Calls Tryz.prog 47 #[.string d, .string m] w fun e w' => e = .returned (.tuple #[.string y, .int .i64 k]) ∧ Below w.heap.size w w'))
    (w : World) : Calls Tryz.prog 24 #[.agg #[.bool s, .string n, .string d], .agg #[.bool t, .string m, .string c]] w fun e w' => e = .returned (.tuple #[.agg #[.bool false, .string { data := #[] }, .string { data := #[] }], .int .i64 2]) ∧ Below w.heap.size w w' := by
  obtain ⟨W0, hW0, HA0, HB0, HZ0, HW0⟩ := three_boxes w #[.bool s, .string n, .string d] #[.bool t, .string m, .string c] #[.bool false, .string { data := #[] }, .string { data := #[] }]
  have ca0_0 := HA0.out.cell (i := 0) rfl
  have ca1_0 := HA0.out.cell (i := 1) rfl
  have ca2_0 := HA0.out.cell (i := 2) rfl
  have cb0_0 := HB0.out.cell (i := 0) rfl
  have cb1_0 := HB0.out.cell (i := 1) rfl
  have cb2_0 := HB0.out.cell (i := 2) rfl
  have cz0_0 := HZ0.out.cell (i := 0) rfl
  have cz1_0 := HZ0.out.cell (i := 1) rfl
  have cz2_0 := HZ0.out.cell (i := 2) rfl
  have fz_0 := HZ0.out.frozen
  go_enter Tryz.func24, Tryz.ntmps24
  go_wp2_with (fail)
  clear ca0_0 ca1_0 ca2_0 cb0_0 cb1_0 cb2_0 cz0_0 cz1_0 cz2_0 fz_0
  refine (H1.out _).mono ?_
  rintro e w1 ⟨rfl, hb1⟩
  have HA1 := Lib.hid (HA0.out.under hb1)
  have HB1 := Lib.hid (HB0.out.under hb1)
  have HZ1 := Lib.hid (HZ0.out.under hb1)
  have HW1 := Lib.hid (HW0.out.trans (hb1.mono HW0.out.size))
  clear hb1
  have ca0_1 := HA1.out.cell (i := 0) rfl
  have ca1_1 := HA1.out.cell (i := 1) rfl
  have ca2_1 := HA1.out.cell (i := 2) rfl
  have cb0_1 := HB1.out.cell (i := 0) rfl
  have cb1_1 := HB1.out.cell (i := 1) rfl
  have cb2_1 := HB1.out.cell (i := 2) rfl
  have cz0_1 := HZ1.out.cell (i := 0) rfl
  have cz1_1 := HZ1.out.cell (i := 1) rfl
  have cz2_1 := HZ1.out.cell (i := 2) rfl
  have fz_1 := HZ1.out.frozen
  go_wp2_with (fail)
  clear ca0_1 ca1_1 ca2_1 cb0_1 cb1_1 cb2_1 cz0_1 cz1_1 cz2_1 fz_1
  refine (H2.out _).mono ?_
  rintro e w2 ⟨rfl, hb2⟩
  have HA2 := Lib.hid (HA1.out.under hb2)
  have HB2 := Lib.hid (HB1.out.under hb2)
  have HZ2 := Lib.hid (HZ1.out.under hb2)
  have HW2 := Lib.hid (HW1.out.trans (hb2.mono HW1.out.size))
  clear hb2
  have ca0_2 := HA2.out.cell (i := 0) rfl
  have ca1_2 := HA2.out.cell (i := 1) rfl
  have ca2_2 := HA2.out.cell (i := 2) rfl
  have cb0_2 := HB2.out.cell (i := 0) rfl
  have cb1_2 := HB2.out.cell (i := 1) rfl
  have cb2_2 := HB2.out.cell (i := 2) rfl
  have cz0_2 := HZ2.out.cell (i := 0) rfl
  have cz1_2 := HZ2.out.cell (i := 1) rfl
  have cz2_2 := HZ2.out.cell (i := 2) rfl
  have fz_2 := HZ2.out.frozen
  go_wp2_with (fail)
  clear ca0_2 ca1_2 ca2_2 cb0_2 cb1_2 cb2_2 cz0_2 cz1_2 cz2_2 fz_2
  refine (H3.out _).mono ?_
  rintro e w3 ⟨rfl, hb3⟩
  have HA3 := Lib.hid (HA2.out.under hb3)
  have HB3 := Lib.hid (HB2.out.under hb3)
  have HZ3 := Lib.hid (HZ2.out.under hb3)
  have HW3 := Lib.hid (HW2.out.trans (hb3.mono HW2.out.size))
  clear hb3
  have ca0_3 := HA3.out.cell (i := 0) rfl
  have ca1_3 := HA3.out.cell (i := 1) rfl
  have ca2_3 := HA3.out.cell (i := 2) rfl
  have cb0_3 := HB3.out.cell (i := 0) rfl
  have cb1_3 := HB3.out.cell (i := 1) rfl
  have cb2_3 := HB3.out.cell (i := 2) rfl
  have cz0_3 := HZ3.out.cell (i := 0) rfl
  have cz1_3 := HZ3.out.cell (i := 1) rfl
  have cz2_3 := HZ3.out.cell (i := 2) rfl
  have fz_3 := HZ3.out.frozen
  go_wp2_with (fail)
  clear ca0_3 ca1_3 ca2_3 cb0_3 cb1_3 cb2_3 cz0_3 cz1_3 cz2_3 fz_3
  refine (H4.out _).mono ?_
  rintro e w4 ⟨rfl, hb4⟩
  have HA4 := Lib.hid (HA3.out.under hb4)
  have HB4 := Lib.hid (HB3.out.under hb4)
  have HZ4 := Lib.hid (HZ3.out.under hb4)
  have HW4 := Lib.hid (HW3.out.trans (hb4.mono HW3.out.size))
  clear hb4
  have ca0_4 := HA4.out.cell (i := 0) rfl
  have ca1_4 := HA4.out.cell (i := 1) rfl
  have ca2_4 := HA4.out.cell (i := 2) rfl
  have cb0_4 := HB4.out.cell (i := 0) rfl
  have cb1_4 := HB4.out.cell (i := 1) rfl
  have cb2_4 := HB4.out.cell (i := 2) rfl
  have cz0_4 := HZ4.out.cell (i := 0) rfl
  have cz1_4 := HZ4.out.cell (i := 1) rfl
  have cz2_4 := HZ4.out.cell (i := 2) rfl
  have fz_4 := HZ4.out.frozen
  go_wp2_with (fail)
  have HF := ((HZ4.out.set (i := 0) (.bool false)).set (i := 1) (.string { data := #[] })).set (i := 2) (.string { data := #[] })
  have f0 := HF.cell (i := 0) rfl
  have f1 := HF.cell (i := 1) rfl
  have f2 := HF.cell (i := 2) rfl
  refine bodyPost_ret (v := .tuple #[.agg #[.bool false, .string { data := #[] }, .string { data := #[] }], .int .i64 2]) ?_ rfl ⟨rfl, ((HW4.out.setCell (by show w.heap.size ≤ w.heap.size + 2; omega) _).setCell (by show w.heap.size ≤ w.heap.size + 2; omega) _).setCell (by show w.heap.size ≤ w.heap.size + 2; omega) _⟩
  rw [results_cell_tmp rfl]
  go_simp
set_option maxRecDepth 100000 in
set_option maxHeartbeats 2000000 in
theorem r7div_g (s t : Bool) (n d m c : ByteArray) (x y : ByteArray) (rb : Bool) (rn rd : ByteArray) (i1 : ¬ m.toList = []) (i2 : m.toList.isEmpty = false)     (H1 : Hid (∀ w : World, Calls Tryz.prog 21 #[.agg #[.bool s, .string n, .string d]] w fun e w' => e = .returned (.int .i64 0) ∧ Below w.heap.size w w'))
    (H2 : Hid (∀ w : World, Calls Tryz.prog 21 #[.agg #[.bool t, .string m, .string c]] w fun e w' => e = .returned (.int .i64 0) ∧ Below w.heap.size w w'))
    (H3 : Hid (∀ w : World, Calls Tryz.prog 47 #[.string n, .string c] w fun e w' => e = .returned (.tuple #[.string x, .int .i64 0]) ∧ Below w.heap.size w w'))
    (H4 : Hid (∀ w : World, Calls Tryz.prog 47 #[.string d, .string m] w fun e w' => e = .returned (.tuple #[.string y, .int .i64 0]) ∧ Below w.heap.size w w'))
    (H5 : Hid (∀ w : World, Calls Tryz.prog 45 #[.bool (s != t), .string x, .string y] w fun e w' => e = .returned (.agg #[.bool rb, .string rn, .string rd]) ∧ Below w.heap.size w w'))
    (w : World) : Calls Tryz.prog 24 #[.agg #[.bool s, .string n, .string d], .agg #[.bool t, .string m, .string c]] w fun e w' => e = .returned (.tuple #[.agg #[.bool rb, .string rn, .string rd], .int .i64 0]) ∧ Below w.heap.size w w' := by
  obtain ⟨W0, hW0, HA0, HB0, HZ0, HW0⟩ := three_boxes w #[.bool s, .string n, .string d] #[.bool t, .string m, .string c] #[.bool false, .string { data := #[] }, .string { data := #[] }]
  have ca0_0 := HA0.out.cell (i := 0) rfl
  have ca1_0 := HA0.out.cell (i := 1) rfl
  have ca2_0 := HA0.out.cell (i := 2) rfl
  have cb0_0 := HB0.out.cell (i := 0) rfl
  have cb1_0 := HB0.out.cell (i := 1) rfl
  have cb2_0 := HB0.out.cell (i := 2) rfl
  have cz0_0 := HZ0.out.cell (i := 0) rfl
  have cz1_0 := HZ0.out.cell (i := 1) rfl
  have cz2_0 := HZ0.out.cell (i := 2) rfl
  have fz_0 := HZ0.out.frozen
  go_enter Tryz.func24, Tryz.ntmps24
  go_wp2_with (fail)
  clear ca0_0 ca1_0 ca2_0 cb0_0 cb1_0 cb2_0 cz0_0 cz1_0 cz2_0 fz_0
  refine (H1.out _).mono ?_
  rintro e w1 ⟨rfl, hb1⟩
  have HA1 := Lib.hid (HA0.out.under hb1)
  have HB1 := Lib.hid (HB0.out.under hb1)
  have HZ1 := Lib.hid (HZ0.out.under hb1)
  have HW1 := Lib.hid (HW0.out.trans (hb1.mono HW0.out.size))
  clear hb1
  have ca0_1 := HA1.out.cell (i := 0) rfl
  have ca1_1 := HA1.out.cell (i := 1) rfl
  have ca2_1 := HA1.out.cell (i := 2) rfl
  have cb0_1 := HB1.out.cell (i := 0) rfl
  have cb1_1 := HB1.out.cell (i := 1) rfl
  have cb2_1 := HB1.out.cell (i := 2) rfl
  have cz0_1 := HZ1.out.cell (i := 0) rfl
  have cz1_1 := HZ1.out.cell (i := 1) rfl
  have cz2_1 := HZ1.out.cell (i := 2) rfl
  have fz_1 := HZ1.out.frozen
  go_wp2_with (fail)
  clear ca0_1 ca1_1 ca2_1 cb0_1 cb1_1 cb2_1 cz0_1 cz1_1 cz2_1 fz_1
  refine (H2.out _).mono ?_
  rintro e w2 ⟨rfl, hb2⟩
  have HA2 := Lib.hid (HA1.out.under hb2)
  have HB2 := Lib.hid (HB1.out.under hb2)
  have HZ2 := Lib.hid (HZ1.out.under hb2)
  have HW2 := Lib.hid (HW1.out.trans (hb2.mono HW1.out.size))
  clear hb2
  have ca0_2 := HA2.out.cell (i := 0) rfl
  have ca1_2 := HA2.out.cell (i := 1) rfl
  have ca2_2 := HA2.out.cell (i := 2) rfl
  have cb0_2 := HB2.out.cell (i := 0) rfl
  have cb1_2 := HB2.out.cell (i := 1) rfl
  have cb2_2 := HB2.out.cell (i := 2) rfl
  have cz0_2 := HZ2.out.cell (i := 0) rfl
  have cz1_2 := HZ2.out.cell (i := 1) rfl
  have cz2_2 := HZ2.out.cell (i := 2) rfl
  have fz_2 := HZ2.out.frozen
  go_wp2_with (fail)
  clear ca0_2 ca1_2 ca2_2 cb0_2 cb1_2 cb2_2 cz0_2 cz1_2 cz2_2 fz_2
  refine (H3.out _).mono ?_
  rintro e w3 ⟨rfl, hb3⟩
  have HA3 := Lib.hid (HA2.out.under hb3)
  have HB3 := Lib.hid (HB2.out.under hb3)
  have HZ3 := Lib.hid (HZ2.out.under hb3)
  have HW3 := Lib.hid (HW2.out.trans (hb3.mono HW2.out.size))
  clear hb3
  have ca0_3 := HA3.out.cell (i := 0) rfl
  have ca1_3 := HA3.out.cell (i := 1) rfl
  have ca2_3 := HA3.out.cell (i := 2) rfl
  have cb0_3 := HB3.out.cell (i := 0) rfl
  have cb1_3 := HB3.out.cell (i := 1) rfl
  have cb2_3 := HB3.out.cell (i := 2) rfl
  have cz0_3 := HZ3.out.cell (i := 0) rfl
  have cz1_3 := HZ3.out.cell (i := 1) rfl
  have cz2_3 := HZ3.out.cell (i := 2) rfl
  have fz_3 := HZ3.out.frozen
  go_wp2_with (fail)
  clear ca0_3 ca1_3 ca2_3 cb0_3 cb1_3 cb2_3 cz0_3 cz1_3 cz2_3 fz_3
  refine (H4.out _).mono ?_
  rintro e w4 ⟨rfl, hb4⟩
  have HA4 := Lib.hid (HA3.out.under hb4)
  have HB4 := Lib.hid (HB3.out.under hb4)
  have HZ4 := Lib.hid (HZ3.out.under hb4)
  have HW4 := Lib.hid (HW3.out.trans (hb4.mono HW3.out.size))
  clear hb4
  have ca0_4 := HA4.out.cell (i := 0) rfl
  have ca1_4 := HA4.out.cell (i := 1) rfl
  have ca2_4 := HA4.out.cell (i := 2) rfl
  have cb0_4 := HB4.out.cell (i := 0) rfl
  have cb1_4 := HB4.out.cell (i := 1) rfl
  have cb2_4 := HB4.out.cell (i := 2) rfl
  have cz0_4 := HZ4.out.cell (i := 0) rfl
  have cz1_4 := HZ4.out.cell (i := 1) rfl
  have cz2_4 := HZ4.out.cell (i := 2) rfl
  have fz_4 := HZ4.out.frozen
  go_wp2_with (fail)
  clear ca0_4 ca1_4 ca2_4 cb0_4 cb1_4 cb2_4 cz0_4 cz1_4 cz2_4 fz_4
  refine (H5.out _).mono ?_
  rintro e w5 ⟨rfl, hb5⟩
  have HA5 := Lib.hid (HA4.out.under hb5)
  have HB5 := Lib.hid (HB4.out.under hb5)
  have HZ5 := Lib.hid (HZ4.out.under hb5)
  have HW5 := Lib.hid (HW4.out.trans (hb5.mono HW4.out.size))
  clear hb5
  have ca0_5 := HA5.out.cell (i := 0) rfl
  have ca1_5 := HA5.out.cell (i := 1) rfl
  have ca2_5 := HA5.out.cell (i := 2) rfl
  have cb0_5 := HB5.out.cell (i := 0) rfl
  have cb1_5 := HB5.out.cell (i := 1) rfl
  have cb2_5 := HB5.out.cell (i := 2) rfl
  have cz0_5 := HZ5.out.cell (i := 0) rfl
  have cz1_5 := HZ5.out.cell (i := 1) rfl
  have cz2_5 := HZ5.out.cell (i := 2) rfl
  have fz_5 := HZ5.out.frozen
  go_wp2_with (fail)
  have HF := ((HZ5.out.set (i := 0) (.bool rb)).set (i := 1) (.string rn)).set (i := 2) (.string rd)
  have f0 := HF.cell (i := 0) rfl
  have f1 := HF.cell (i := 1) rfl
  have f2 := HF.cell (i := 2) rfl
  refine bodyPost_ret (v := .tuple #[.agg #[.bool rb, .string rn, .string rd], .int .i64 0]) ?_ rfl ⟨rfl, ((HW5.out.setCell (by show w.heap.size ≤ w.heap.size + 2; omega) _).setCell (by show w.heap.size ≤ w.heap.size + 2; omega) _).setCell (by show w.heap.size ≤ w.heap.size + 2; omega) _⟩
  rw [results_cell_tmp rfl]
  go_simp
end Go.Proofs.YteggbpaljmopoaaGreat
/- backflushref07: whole, Floor, opposite, Ceil. PRINTED BY wip/gen_ref07.py -/
namespace Go.Proofs.YteggbpaljmopoaaGreat
open Go.RowKit BF

def wh (neg : Bool) (k : Nat) : Int × Int := if k ≤ 4611686018427387904 then (if neg then -(k : Int) else (k : Int), 0) else (0, 2)
set_option maxRecDepth 100000 in
set_option maxHeartbeats 1000000 in
theorem r7whole_nat (neg : Bool) (k : Nat) (hk : small k) (w : World) : Calls Tryz.prog 78 #[.bool neg, .string (nat k)] w fun e w' => e = .returned (.tuple #[.int .i64 (wh neg k).1, .int .i64 (wh neg k).2]) ∧ Below w.heap.size w w' := by
  have HI := Lib.hid (fun w => rInt_any (nat k) (natB_nat k) (nat_le hk) w)
  rw [(int_nat k).1, (int_nat k).2] at HI
  unfold wh
  by_cases h1 : k ≤ 9223372036854775807
  · rw [decide_eq_true h1, if_pos h1] at HI
    by_cases h2 : k ≤ 4611686018427387904
    · rw [if_pos h2]
      have h3 : ¬ (4611686018427387904 : Int) < (k : Int) := by omega
      generalize nat k = K at *
      clear h1 hk
      cases neg with
      | false =>
        go_enter Tryz.func78, Tryz.ntmps78
        go_wp2_with (fail)
        refine (HI.out _).mono ?_
        rintro e w1 ⟨rfl, hb⟩
        have HW := Lib.hid hb
        clear hb
        go_wp2
        go_ret2
        exact ⟨rfl, HW.out⟩
      | true =>
        go_enter Tryz.func78, Tryz.ntmps78
        go_wp2_with (fail)
        refine (HI.out _).mono ?_
        rintro e w1 ⟨rfl, hb⟩
        have HW := Lib.hid hb
        clear hb
        go_wp2
        go_ret2
        exact ⟨rfl, HW.out⟩
    · rw [if_neg h2]
      have h3 : (4611686018427387904 : Int) < (k : Int) := by omega
      generalize nat k = K at *
      clear h1 hk
      go_enter Tryz.func78, Tryz.ntmps78
      go_wp2_with (fail)
      refine (HI.out _).mono ?_
      rintro e w1 ⟨rfl, hb⟩
      have HW := Lib.hid hb
      clear hb
      go_wp2
      go_ret2
      exact ⟨rfl, HW.out⟩
  · rw [decide_eq_false h1, if_neg h1] at HI
    rw [if_neg (by omega)]
    generalize nat k = K at *
    clear h1 hk
    go_enter Tryz.func78, Tryz.ntmps78
    go_wp2_with (fail)
    refine (HI.out _).mono ?_
    rintro e w1 ⟨rfl, hb⟩
    have HW := Lib.hid hb
    clear hb
    go_wp2
    go_ret2
    exact ⟨rfl, HW.out⟩
set_option maxRecDepth 100000 in
set_option maxHeartbeats 2000000 in
theorem r7floor_c (s : Bool) (n d : ByteArray) (k : Int) (hk : (k != 0) = true)     (H1 : Hid (∀ w : World, Calls Tryz.prog 21 #[.agg #[.bool s, .string n, .string d]] w fun e w' => e = .returned (.int .i64 k) ∧ Below w.heap.size w w'))
    (w : World) : Calls Tryz.prog 48 #[.agg #[.bool s, .string n, .string d]] w fun e w' => e = .returned (.tuple #[.int .i64 0, .int .i64 70]) ∧ Below w.heap.size w w' := by
  obtain ⟨W0, hW0, HA0, HW0⟩ := one_box w #[.bool s, .string n, .string d]
  have ca0_0 := HA0.out.cell (i := 0) rfl
  have ca1_0 := HA0.out.cell (i := 1) rfl
  have ca2_0 := HA0.out.cell (i := 2) rfl
  go_enter Tryz.func48, Tryz.ntmps48
  go_wp2_with (fail)
  clear ca0_0 ca1_0 ca2_0
  refine (H1.out _).mono ?_
  rintro e w1 ⟨rfl, hb1⟩
  have HA1 := Lib.hid (HA0.out.under hb1)
  have HW1 := Lib.hid (HW0.out.trans (hb1.mono HW0.out.size))
  clear hb1
  have ca0_1 := HA1.out.cell (i := 0) rfl
  have ca1_1 := HA1.out.cell (i := 1) rfl
  have ca2_1 := HA1.out.cell (i := 2) rfl
  go_wp2
  go_ret2
  exact ⟨rfl, HW1.out⟩
set_option maxRecDepth 100000 in
set_option maxHeartbeats 2000000 in
theorem r7floor_l (s : Bool) (n d : ByteArray) (q r : ByteArray) (hq : (8 : Int) < (q.size : Int))     (H1 : Hid (∀ w : World, Calls Tryz.prog 21 #[.agg #[.bool s, .string n, .string d]] w fun e w' => e = .returned (.int .i64 0) ∧ Below w.heap.size w w'))
    (H2 : Hid (∀ w : World, Calls Tryz.prog 71 #[.string n, .string d] w fun e w' => e = .returned (.tuple #[.string q, .string r, .int .i64 0]) ∧ Below w.heap.size w w'))
    (w : World) : Calls Tryz.prog 48 #[.agg #[.bool s, .string n, .string d]] w fun e w' => e = .returned (.tuple #[.int .i64 0, .int .i64 2]) ∧ Below w.heap.size w w' := by
  obtain ⟨W0, hW0, HA0, HW0⟩ := one_box w #[.bool s, .string n, .string d]
  have ca0_0 := HA0.out.cell (i := 0) rfl
  have ca1_0 := HA0.out.cell (i := 1) rfl
  have ca2_0 := HA0.out.cell (i := 2) rfl
  go_enter Tryz.func48, Tryz.ntmps48
  go_wp2_with (fail)
  clear ca0_0 ca1_0 ca2_0
  refine (H1.out _).mono ?_
  rintro e w1 ⟨rfl, hb1⟩
  have HA1 := Lib.hid (HA0.out.under hb1)
  have HW1 := Lib.hid (HW0.out.trans (hb1.mono HW0.out.size))
  clear hb1
  have ca0_1 := HA1.out.cell (i := 0) rfl
  have ca1_1 := HA1.out.cell (i := 1) rfl
  have ca2_1 := HA1.out.cell (i := 2) rfl
  go_wp2_with (fail)
  clear ca0_1 ca1_1 ca2_1
  refine (H2.out _).mono ?_
  rintro e w2 ⟨rfl, hb2⟩
  have HA2 := Lib.hid (HA1.out.under hb2)
  have HW2 := Lib.hid (HW1.out.trans (hb2.mono HW1.out.size))
  clear hb2
  have ca0_2 := HA2.out.cell (i := 0) rfl
  have ca1_2 := HA2.out.cell (i := 1) rfl
  have ca2_2 := HA2.out.cell (i := 2) rfl
  go_wp2
  go_ret2
  exact ⟨rfl, HW2.out⟩
set_option maxRecDepth 100000 in
set_option maxHeartbeats 2000000 in
theorem r7floor_p (n d : ByteArray) (q r : ByteArray) (hq : ¬ (8 : Int) < (q.size : Int)) (v k : Int)     (H1 : Hid (∀ w : World, Calls Tryz.prog 21 #[.agg #[.bool false, .string n, .string d]] w fun e w' => e = .returned (.int .i64 0) ∧ Below w.heap.size w w'))
    (H2 : Hid (∀ w : World, Calls Tryz.prog 71 #[.string n, .string d] w fun e w' => e = .returned (.tuple #[.string q, .string r, .int .i64 0]) ∧ Below w.heap.size w w'))
    (H4 : Hid (∀ w : World, Calls Tryz.prog 78 #[.bool false, .string q] w fun e w' => e = .returned (.tuple #[.int .i64 v, .int .i64 k]) ∧ Below w.heap.size w w'))
    (w : World) : Calls Tryz.prog 48 #[.agg #[.bool false, .string n, .string d]] w fun e w' => e = .returned (.tuple #[.int .i64 v, .int .i64 k]) ∧ Below w.heap.size w w' := by
  obtain ⟨W0, hW0, HA0, HW0⟩ := one_box w #[.bool false, .string n, .string d]
  have ca0_0 := HA0.out.cell (i := 0) rfl
  have ca1_0 := HA0.out.cell (i := 1) rfl
  have ca2_0 := HA0.out.cell (i := 2) rfl
  go_enter Tryz.func48, Tryz.ntmps48
  go_wp2_with (fail)
  clear ca0_0 ca1_0 ca2_0
  refine (H1.out _).mono ?_
  rintro e w1 ⟨rfl, hb1⟩
  have HA1 := Lib.hid (HA0.out.under hb1)
  have HW1 := Lib.hid (HW0.out.trans (hb1.mono HW0.out.size))
  clear hb1
  have ca0_1 := HA1.out.cell (i := 0) rfl
  have ca1_1 := HA1.out.cell (i := 1) rfl
  have ca2_1 := HA1.out.cell (i := 2) rfl
  go_wp2_with (fail)
  clear ca0_1 ca1_1 ca2_1
  refine (H2.out _).mono ?_
  rintro e w2 ⟨rfl, hb2⟩
  have HA2 := Lib.hid (HA1.out.under hb2)
  have HW2 := Lib.hid (HW1.out.trans (hb2.mono HW1.out.size))
  clear hb2
  have ca0_2 := HA2.out.cell (i := 0) rfl
  have ca1_2 := HA2.out.cell (i := 1) rfl
  have ca2_2 := HA2.out.cell (i := 2) rfl
  go_wp2_with (fail)
  clear ca0_2 ca1_2 ca2_2
  refine (H4.out _).mono ?_
  rintro e w3 ⟨rfl, hb3⟩
  have HA3 := Lib.hid (HA2.out.under hb3)
  have HW3 := Lib.hid (HW2.out.trans (hb3.mono HW2.out.size))
  clear hb3
  have ca0_3 := HA3.out.cell (i := 0) rfl
  have ca1_3 := HA3.out.cell (i := 1) rfl
  have ca2_3 := HA3.out.cell (i := 2) rfl
  go_wp2
  go_ret2
  exact ⟨rfl, HW3.out⟩
set_option maxRecDepth 100000 in
set_option maxHeartbeats 2000000 in
theorem r7floor_m (n d : ByteArray) (q r : ByteArray) (hq : ¬ (8 : Int) < (q.size : Int)) (v k : Int) (i1 : r.toList = []) (i2 : r.toList.isEmpty = true)     (H1 : Hid (∀ w : World, Calls Tryz.prog 21 #[.agg #[.bool true, .string n, .string d]] w fun e w' => e = .returned (.int .i64 0) ∧ Below w.heap.size w w'))
    (H2 : Hid (∀ w : World, Calls Tryz.prog 71 #[.string n, .string d] w fun e w' => e = .returned (.tuple #[.string q, .string r, .int .i64 0]) ∧ Below w.heap.size w w'))
    (H4 : Hid (∀ w : World, Calls Tryz.prog 78 #[.bool true, .string q] w fun e w' => e = .returned (.tuple #[.int .i64 v, .int .i64 k]) ∧ Below w.heap.size w w'))
    (w : World) : Calls Tryz.prog 48 #[.agg #[.bool true, .string n, .string d]] w fun e w' => e = .returned (.tuple #[.int .i64 v, .int .i64 k]) ∧ Below w.heap.size w w' := by
  obtain ⟨W0, hW0, HA0, HW0⟩ := one_box w #[.bool true, .string n, .string d]
  have ca0_0 := HA0.out.cell (i := 0) rfl
  have ca1_0 := HA0.out.cell (i := 1) rfl
  have ca2_0 := HA0.out.cell (i := 2) rfl
  go_enter Tryz.func48, Tryz.ntmps48
  go_wp2_with (fail)
  clear ca0_0 ca1_0 ca2_0
  refine (H1.out _).mono ?_
  rintro e w1 ⟨rfl, hb1⟩
  have HA1 := Lib.hid (HA0.out.under hb1)
  have HW1 := Lib.hid (HW0.out.trans (hb1.mono HW0.out.size))
  clear hb1
  have ca0_1 := HA1.out.cell (i := 0) rfl
  have ca1_1 := HA1.out.cell (i := 1) rfl
  have ca2_1 := HA1.out.cell (i := 2) rfl
  go_wp2_with (fail)
  clear ca0_1 ca1_1 ca2_1
  refine (H2.out _).mono ?_
  rintro e w2 ⟨rfl, hb2⟩
  have HA2 := Lib.hid (HA1.out.under hb2)
  have HW2 := Lib.hid (HW1.out.trans (hb2.mono HW1.out.size))
  clear hb2
  have ca0_2 := HA2.out.cell (i := 0) rfl
  have ca1_2 := HA2.out.cell (i := 1) rfl
  have ca2_2 := HA2.out.cell (i := 2) rfl
  go_wp2_with (fail)
  clear ca0_2 ca1_2 ca2_2
  refine (H4.out _).mono ?_
  rintro e w3 ⟨rfl, hb3⟩
  have HA3 := Lib.hid (HA2.out.under hb3)
  have HW3 := Lib.hid (HW2.out.trans (hb3.mono HW2.out.size))
  clear hb3
  have ca0_3 := HA3.out.cell (i := 0) rfl
  have ca1_3 := HA3.out.cell (i := 1) rfl
  have ca2_3 := HA3.out.cell (i := 2) rfl
  go_wp2
  go_ret2
  exact ⟨rfl, HW3.out⟩
set_option maxRecDepth 100000 in
set_option maxHeartbeats 2000000 in
theorem r7floor_i (n d : ByteArray) (q r : ByteArray) (hq : ¬ (8 : Int) < (q.size : Int)) (v k : Int) (i1 : ¬ r.toList = []) (i2 : r.toList.isEmpty = false) (q2 : ByteArray)     (H1 : Hid (∀ w : World, Calls Tryz.prog 21 #[.agg #[.bool true, .string n, .string d]] w fun e w' => e = .returned (.int .i64 0) ∧ Below w.heap.size w w'))
    (H2 : Hid (∀ w : World, Calls Tryz.prog 71 #[.string n, .string d] w fun e w' => e = .returned (.tuple #[.string q, .string r, .int .i64 0]) ∧ Below w.heap.size w w'))
    (H3 : Hid (∀ w : World, Calls Tryz.prog 73 #[.string q, .string { data := #[1] }] w fun e w' => e = .returned (.tuple #[.string q2, .int .i64 0]) ∧ Below w.heap.size w w'))
    (H4 : Hid (∀ w : World, Calls Tryz.prog 78 #[.bool true, .string q2] w fun e w' => e = .returned (.tuple #[.int .i64 v, .int .i64 k]) ∧ Below w.heap.size w w'))
    (w : World) : Calls Tryz.prog 48 #[.agg #[.bool true, .string n, .string d]] w fun e w' => e = .returned (.tuple #[.int .i64 v, .int .i64 k]) ∧ Below w.heap.size w w' := by
  obtain ⟨W0, hW0, HA0, HW0⟩ := one_box w #[.bool true, .string n, .string d]
  have ca0_0 := HA0.out.cell (i := 0) rfl
  have ca1_0 := HA0.out.cell (i := 1) rfl
  have ca2_0 := HA0.out.cell (i := 2) rfl
  go_enter Tryz.func48, Tryz.ntmps48
  go_wp2_with (fail)
  clear ca0_0 ca1_0 ca2_0
  refine (H1.out _).mono ?_
  rintro e w1 ⟨rfl, hb1⟩
  have HA1 := Lib.hid (HA0.out.under hb1)
  have HW1 := Lib.hid (HW0.out.trans (hb1.mono HW0.out.size))
  clear hb1
  have ca0_1 := HA1.out.cell (i := 0) rfl
  have ca1_1 := HA1.out.cell (i := 1) rfl
  have ca2_1 := HA1.out.cell (i := 2) rfl
  go_wp2_with (fail)
  clear ca0_1 ca1_1 ca2_1
  refine (H2.out _).mono ?_
  rintro e w2 ⟨rfl, hb2⟩
  have HA2 := Lib.hid (HA1.out.under hb2)
  have HW2 := Lib.hid (HW1.out.trans (hb2.mono HW1.out.size))
  clear hb2
  have ca0_2 := HA2.out.cell (i := 0) rfl
  have ca1_2 := HA2.out.cell (i := 1) rfl
  have ca2_2 := HA2.out.cell (i := 2) rfl
  go_wp2_with (fail)
  clear ca0_2 ca1_2 ca2_2
  refine (H3.out _).mono ?_
  rintro e w3 ⟨rfl, hb3⟩
  have HA3 := Lib.hid (HA2.out.under hb3)
  have HW3 := Lib.hid (HW2.out.trans (hb3.mono HW2.out.size))
  clear hb3
  have ca0_3 := HA3.out.cell (i := 0) rfl
  have ca1_3 := HA3.out.cell (i := 1) rfl
  have ca2_3 := HA3.out.cell (i := 2) rfl
  go_wp2_with (fail)
  clear ca0_3 ca1_3 ca2_3
  refine (H4.out _).mono ?_
  rintro e w4 ⟨rfl, hb4⟩
  have HA4 := Lib.hid (HA3.out.under hb4)
  have HW4 := Lib.hid (HW3.out.trans (hb4.mono HW3.out.size))
  clear hb4
  have ca0_4 := HA4.out.cell (i := 0) rfl
  have ca1_4 := HA4.out.cell (i := 1) rfl
  have ca2_4 := HA4.out.cell (i := 2) rfl
  go_wp2
  go_ret2
  exact ⟨rfl, HW4.out⟩
theorem two_boxes (w : World) (a z : Array Value) : ∃ W, (w.alloc (.cells a 25)).alloc (.cells z 25) = W ∧ Hid (Blk W w.heap.size 25 a) ∧ Hid (Blk W (w.heap.size + 1) 25 z) ∧ Hid (Below w.heap.size w W) := by
  have h1 := (Below.refl w.heap.size w).alloc (Nat.le_refl _) (.cells a 25)
  have h2 := h1.alloc h1.size (.cells z 25)
  have e1 : (w.alloc (.cells a 25)).heap.size = w.heap.size + 1 := by simp
  refine ⟨_, rfl, (Blk.new w 25 a).alloc _, ?_, h2⟩
  have := Blk.new (w.alloc (.cells a 25)) 25 z
  rw [e1] at this
  exact this
set_option maxRecDepth 100000 in
set_option maxHeartbeats 2000000 in
theorem r7opposite_gen (s : Bool) (n d : ByteArray) (b : Bool) (hs : s = true ∧ b = false ∨ s = false ∧ n.toList.isEmpty = true ∧ n.toList = [] ∧ b = false ∨ s = false ∧ n.toList.isEmpty = false ∧ ¬ n.toList = [] ∧ b = true) (w : World) :
    Calls Tryz.prog 49 #[.agg #[.bool s, .string n, .string d]] w fun e w' => e = .returned (.agg #[.bool b, .string n, .string d]) ∧ Below w.heap.size w w' := by
  obtain ⟨W0, hW0, HA, HZ, HW⟩ := two_boxes w #[.bool s, .string n, .string d] #[.bool false, .string { data := #[] }, .string { data := #[] }]
  have a0 := HA.out.cell (i := 0) rfl
  have a1 := HA.out.cell (i := 1) rfl
  have fa := HA.out.frozen
  have HA2 := Lib.hid (HA.out.set (i := 0) (.bool b))
  have HZ2 := Lib.hid (HZ.out.other (i := 0) (.bool b) (show w.heap.size + 1 ≠ w.heap.size by omega))
  have b0 := HA2.out.cell (i := 0) rfl
  have b1 := HA2.out.cell (i := 1) rfl
  have b2 := HA2.out.cell (i := 2) rfl
  have z0 := HZ2.out.cell (i := 0) rfl
  have z1 := HZ2.out.cell (i := 1) rfl
  have z2 := HZ2.out.cell (i := 2) rfl
  have fz := HZ2.out.frozen
  have HF := Lib.hid (((HZ2.out.set (i := 0) (.bool b)).set (i := 1) (.string n)).set (i := 2) (.string d))
  have f0 := HF.out.cell (i := 0) rfl
  have f1 := HF.out.cell (i := 1) rfl
  have f2 := HF.out.cell (i := 2) rfl
  have HWF := Lib.hid ((((HW.out.setCell (p := ⟨w.heap.size, 0, none⟩) (Nat.le_refl _) (.bool b)).setCell (p := ⟨w.heap.size + 1, 0, none⟩) (Nat.le_succ _) (.bool b)).setCell (p := ⟨w.heap.size + 1, 1, none⟩) (Nat.le_succ _) (.string n)).setCell (p := ⟨w.heap.size + 1, 2, none⟩) (Nat.le_succ _) (.string d))
  rcases hs with ⟨rfl, rfl⟩ | ⟨rfl, z1, z2, rfl⟩ | ⟨rfl, z1, z2, rfl⟩
  all_goals
    go_enter Tryz.func49, Tryz.ntmps49
    go_wp2
    refine bodyPost_ret (v := .agg #[.bool _, .string n, .string d]) ?_ rfl ⟨rfl, HWF.out⟩
    rw [results_cell1 rfl]
    go_simp
set_option maxRecDepth 100000 in
set_option maxHeartbeats 2000000 in
theorem r7ceil_bad (s : Bool) (n d : ByteArray) (k : Int) (hk : (k != 0) = true)
    (H1 : Hid (∀ w : World, Calls Tryz.prog 21 #[.agg #[.bool s, .string n, .string d]] w fun e w' => e = .returned (.int .i64 k) ∧ Below w.heap.size w w'))
    (w : World) : Calls Tryz.prog 26 #[.agg #[.bool s, .string n, .string d]] w fun e w' => e = .returned (.tuple #[.int .i64 0, .int .i64 70]) ∧ Below w.heap.size w w' := by
  obtain ⟨W0, hW0, HA0, HW0⟩ := one_box w #[.bool s, .string n, .string d]
  have ca0_0 := HA0.out.cell (i := 0) rfl
  have ca1_0 := HA0.out.cell (i := 1) rfl
  have ca2_0 := HA0.out.cell (i := 2) rfl
  go_enter Tryz.func26, Tryz.ntmps26
  go_wp2_with (fail)
  clear ca0_0 ca1_0 ca2_0
  refine (H1.out _).mono ?_
  rintro e w1 ⟨rfl, hb1⟩
  have HA1 := Lib.hid (HA0.out.under hb1)
  have HW1 := Lib.hid (HW0.out.trans (hb1.mono HW0.out.size))
  clear hb1
  have ca0_1 := HA1.out.cell (i := 0) rfl
  have ca1_1 := HA1.out.cell (i := 1) rfl
  have ca2_1 := HA1.out.cell (i := 2) rfl
  go_wp2
  go_ret2
  exact ⟨rfl, HW1.out⟩
set_option maxRecDepth 100000 in
set_option maxHeartbeats 2000000 in
theorem r7ceil_ok (s b : Bool) (n d : ByteArray) (v k nv : Int) (hnv : IntKind.i64.wrap (-v) = nv)
    (H1 : Hid (∀ w : World, Calls Tryz.prog 21 #[.agg #[.bool s, .string n, .string d]] w fun e w' => e = .returned (.int .i64 0) ∧ Below w.heap.size w w'))
    (H2 : Hid (∀ w : World, Calls Tryz.prog 49 #[.agg #[.bool s, .string n, .string d]] w fun e w' => e = .returned (.agg #[.bool b, .string n, .string d]) ∧ Below w.heap.size w w'))
    (H3 : Hid (∀ w : World, Calls Tryz.prog 48 #[.agg #[.bool b, .string n, .string d]] w fun e w' => e = .returned (.tuple #[.int .i64 v, .int .i64 k]) ∧ Below w.heap.size w w'))
    (w : World) : Calls Tryz.prog 26 #[.agg #[.bool s, .string n, .string d]] w fun e w' => e = .returned (.tuple #[.int .i64 nv, .int .i64 k]) ∧ Below w.heap.size w w' := by
  obtain ⟨W0, hW0, HA0, HW0⟩ := one_box w #[.bool s, .string n, .string d]
  have ca0_0 := HA0.out.cell (i := 0) rfl
  have ca1_0 := HA0.out.cell (i := 1) rfl
  have ca2_0 := HA0.out.cell (i := 2) rfl
  go_enter Tryz.func26, Tryz.ntmps26
  go_wp2_with (fail)
  clear ca0_0 ca1_0 ca2_0
  refine (H1.out _).mono ?_
  rintro e w1 ⟨rfl, hb1⟩
  have HA1 := Lib.hid (HA0.out.under hb1)
  have HW1 := Lib.hid (HW0.out.trans (hb1.mono HW0.out.size))
  clear hb1
  have ca0_1 := HA1.out.cell (i := 0) rfl
  have ca1_1 := HA1.out.cell (i := 1) rfl
  have ca2_1 := HA1.out.cell (i := 2) rfl
  go_wp2_with (fail)
  clear ca0_1 ca1_1 ca2_1
  refine (H2.out _).mono ?_
  rintro e w2 ⟨rfl, hb2⟩
  have HA2 := Lib.hid (HA1.out.under hb2)
  have HW2 := Lib.hid (HW1.out.trans (hb2.mono HW1.out.size))
  clear hb2
  have ca0_2 := HA2.out.cell (i := 0) rfl
  have ca1_2 := HA2.out.cell (i := 1) rfl
  have ca2_2 := HA2.out.cell (i := 2) rfl
  go_wp2_with (fail)
  clear ca0_2 ca1_2 ca2_2
  refine (H3.out _).mono ?_
  rintro e w3 ⟨rfl, hb3⟩
  have HA3 := Lib.hid (HA2.out.under hb3)
  have HW3 := Lib.hid (HW2.out.trans (hb3.mono HW2.out.size))
  clear hb3
  have ca0_3 := HA3.out.cell (i := 0) rfl
  have ca1_3 := HA3.out.cell (i := 1) rfl
  have ca2_3 := HA3.out.cell (i := 2) rfl
  go_wp2
  go_ret2
  exact ⟨rfl, HW3.out⟩
end Go.Proofs.YteggbpaljmopoaaGreat
/- backflushref07: Mul, Div, Floor, Ceil, New. -/
namespace Go.Proofs.YteggbpaljmopoaaGreat
open Go.RowKit BF

theorem r7Check_r (r : RV) (hr : r.fits) (w : World) : Calls Tryz.prog 21 #[r.v] w fun e w' => e = .returned (.int .i64 (if r.ok then 0 else 70)) ∧ Below w.heap.size w w' := r7Check_any r.neg r.n r.d hr.1 hr.2 w
theorem ok_of {r : RV} (h : r.ok = true) : ∃ q, r = ofQ q ∧ okQ q := by
  obtain ⟨e, o⟩ := RV.ok_is h
  exact ⟨r.q, e, o⟩
theorem r7Check_q {q : Rat} (o : okQ q) (w : World) : Calls Tryz.prog 21 #[.agg #[.bool (decide (q < 0)), .string (nat q.num.natAbs), .string (nat q.den)]] w fun e w' => e = .returned (.int .i64 0) ∧ Below w.heap.size w w' := by
  have h := r7Check_any (decide (q < 0)) (nat q.num.natAbs) (nat q.den) (nat_le o.1) (nat_le o.2) w
  rwa [show chkV _ _ _ = 0 from if_pos (ratOk_q q o.1 o.2)] at h
theorem r7Check_bad {r : RV} (h : r.ok = false) (hr : r.fits) (w : World) : Calls Tryz.prog 21 #[.agg #[.bool r.neg, .string r.n, .string r.d]] w fun e w' => e = .returned (.int .i64 70) ∧ Below w.heap.size w w' := by
  have h2 := r7Check_r r hr w
  rw [h] at h2
  exact h2
theorem r7Check_good {r : RV} (h : r.ok = true) (hr : r.fits) (w : World) : Calls Tryz.prog 21 #[.agg #[.bool r.neg, .string r.n, .string r.d]] w fun e w' => e = .returned (.int .i64 0) ∧ Below w.heap.size w w' := by
  have h2 := r7Check_r r hr w
  rw [h] at h2
  exact h2
theorem rMul_nat {x y : Nat} (hx : small x) (hy : small y) (w : World) : Calls Tryz.prog 47 #[.string (nat x), .string (nat y)] w fun e w' => e = .returned (.tuple #[.string (shortS (x * y)), .int .i64 (shortE (x * y))]) ∧ Below w.heap.size w w' := by
  have h := rMul_core (nat x) (nat y) (natB_nat x) (natB_nat y) hx hy w
  rwa [val_nat, val_nat] at h
theorem rMul_small {x y : Nat} (hx : small x) (hy : small y) (h : small (x * y)) (w : World) : Calls Tryz.prog 47 #[.string (nat x), .string (nat y)] w fun e w' => e = .returned (.tuple #[.string (nat (x * y)), .int .i64 0]) ∧ Below w.heap.size w w' := by
  have h2 := rMul_nat hx hy w
  rwa [show shortS (x * y) = nat (x * y) from if_pos h, show shortE (x * y) = 0 from if_pos h] at h2
theorem rMul_big {x y : Nat} (hx : small x) (hy : small y) (h : ¬ small (x * y)) (w : World) : Calls Tryz.prog 47 #[.string (nat x), .string (nat y)] w fun e w' => e = .returned (.tuple #[.string (shortS (x * y)), .int .i64 2]) ∧ Below w.heap.size w w' := by
  have h2 := rMul_nat hx hy w
  rwa [show shortE (x * y) = 2 from if_neg h] at h2
theorem r7Mul_any (a b : RV) (ha : a.fits) (hb : b.fits) (w : World) : Calls Tryz.prog 25 #[a.v, b.v] w (CalcR w (mulR a b)) := by
  unfold mulR
  cases h1 : a.ok with
  | false => exact r7mul_a a.neg b.neg a.n a.d b.n b.d 70 rfl (r7Check_bad h1 ha) w
  | true =>
    cases h2 : b.ok with
    | false => exact r7mul_b a.neg b.neg a.n a.d b.n b.d 70 rfl (r7Check_good h1 ha) (r7Check_bad h2 hb) w
    | true =>
      obtain ⟨p, rfl, op⟩ := ok_of h1
      obtain ⟨q, rfl, oq⟩ := ok_of h2
      rw [Bool.and_self, if_pos rfl, ofQ_q, ofQ_q]
      by_cases hx : small (p.num.natAbs * q.num.natAbs)
      · by_cases hy : small (p.den * q.den)
        · rw [if_pos ⟨hx, hy⟩]
          have e : mkQ (decide (p < 0) != decide (q < 0)) (p.num.natAbs * q.num.natAbs) (p.den * q.den) = p * q := by
            rw [← mul_mkQ, mkQ_self, mkQ_self]
          refine r7mul_g _ _ _ _ _ _ (nat (p.num.natAbs * q.num.natAbs)) (nat (p.den * q.den)) _ _ _ (r7Check_q op) (r7Check_q oq) (rMul_small op.1 oq.1 hx) (rMul_small op.2 oq.2 hy) (fun w => ?_) w
          have h := r7lowest_any (decide (p < 0) != decide (q < 0)) _ _ hx hy (Nat.mul_pos (den_pos p) (den_pos q)) w
          rw [e] at h
          exact h
        · rw [if_neg (fun h => hy h.2)]
          exact r7mul_f _ _ _ _ _ _ 2 rfl _ _ (r7Check_q op) (r7Check_q oq) (rMul_small op.1 oq.1 hx) (rMul_big op.2 oq.2 hy) w
      · rw [if_neg (fun h => hx h.1)]
        exact r7mul_e _ _ _ _ _ _ 2 _ rfl _ _ (r7Check_q op) (r7Check_q oq) (rMul_big op.1 oq.1 hx) (rMul_nat op.2 oq.2) w
theorem r7Div_any (a b : RV) (ha : a.fits) (hb : b.fits) (w : World) : Calls Tryz.prog 24 #[a.v, b.v] w (CalcR w (divR a b)) := by
  unfold divR
  cases h1 : a.ok with
  | false => exact r7div_a a.neg b.neg a.n a.d b.n b.d 70 rfl (r7Check_bad h1 ha) w
  | true =>
    cases h2 : b.ok with
    | false => exact r7div_b a.neg b.neg a.n a.d b.n b.d 70 rfl (r7Check_good h1 ha) (r7Check_bad h2 hb) w
    | true =>
      obtain ⟨p, rfl, op⟩ := ok_of h1
      obtain ⟨q, rfl, oq⟩ := ok_of h2
      rw [Bool.and_self, if_pos rfl, ofQ_q, ofQ_q]
      by_cases h0 : q = 0
      · rw [if_pos h0]
        have hz : q.num.natAbs = 0 := by rw [h0]; rfl
        exact r7div_z _ _ _ _ _ _ (nat_empty hz).2 (nat_empty hz).1 (r7Check_q op) (r7Check_q oq) w
      · rw [if_neg h0]
        have hz : q.num.natAbs ≠ 0 := fun h2 => h0 (Rat.num_eq_zero.1 (by omega))
        by_cases hx : small (p.num.natAbs * q.den)
        · by_cases hy : small (p.den * q.num.natAbs)
          · rw [if_pos ⟨hx, hy⟩]
            have e : mkQ (decide (p < 0) != decide (q < 0)) (p.num.natAbs * q.den) (p.den * q.num.natAbs) = p / q := by
              rw [← mul_mkQ, mkQ_self, mkQ_inv q h0, ← Rat.div_def]
            refine r7div_g _ _ _ _ _ _ (nat (p.num.natAbs * q.den)) (nat (p.den * q.num.natAbs)) _ _ _ (nat_nonempty hz).2 (nat_nonempty hz).1 (r7Check_q op) (r7Check_q oq) (rMul_small op.1 oq.2 hx) (rMul_small op.2 oq.1 hy) (fun w => ?_) w
            have h := r7lowest_any (decide (p < 0) != decide (q < 0)) _ _ hx hy (Nat.mul_pos (den_pos p) (by omega)) w
            rw [e] at h
            exact h
          · rw [if_neg (fun h => hy h.2)]
            exact r7div_f _ _ _ _ _ _ 2 rfl _ _ (nat_nonempty hz).2 (nat_nonempty hz).1 (r7Check_q op) (r7Check_q oq) (rMul_small op.1 oq.2 hx) (rMul_big op.2 oq.1 hy) w
        · rw [if_neg (fun h => hx h.1)]
          exact r7div_e _ _ _ _ _ _ 2 _ rfl _ _ (nat_nonempty hz).2 (nat_nonempty hz).1 (r7Check_q op) (r7Check_q oq) (rMul_big op.1 oq.2 hx) (rMul_nat op.2 oq.1) w
theorem wh_within (s : Bool) (k : Nat) : wh s k = within (if s then -(k : Int) else (k : Int)) := by
  unfold wh within
  cases s with
  | false => simp only [Bool.false_eq_true, if_false, Int.natAbs_natCast]
  | true => simp only [if_true, Int.natAbs_neg, Int.natAbs_natCast]
theorem nat_eight {k : Nat} (h : ¬ (8 : Int) < ((nat k).size : Int)) : k < 256 ^ 8 := (enc_length_le_iff k 8).1 (by have e : (nat k).size = (enc k).length := rfl; omega)
theorem rAdd_one {k : Nat} (hk : small k) (h : small (k + 1)) (w : World) : Calls Tryz.prog 73 #[.string (nat k), .string { data := #[1] }] w fun e w' => e = .returned (.tuple #[.string (nat (k + 1)), .int .i64 0]) ∧ Below w.heap.size w w' := by
  have h1 := rAdd_core (nat k) (nat 1) (natB_nat k) (natB_nat 1) hk (by decide) w
  rw [val_nat, val_nat, show shortS (k + 1) = nat (k + 1) from if_pos h, show shortE (k + 1) = 0 from if_pos h] at h1
  exact h1
theorem r7Floor_any (r : RV) (hr : r.fits) (w : World) : Calls Tryz.prog 48 #[r.v] w fun e w' => e = .returned (.tuple #[.int .i64 (floorR r).1, .int .i64 (floorR r).2]) ∧ Below w.heap.size w w' := by
  unfold floorR
  cases hok : r.ok with
  | false => exact r7floor_c r.neg r.n r.d 70 rfl (r7Check_bad hok hr) w
  | true =>
    obtain ⟨q, rfl, o⟩ := ok_of hok
    rw [if_pos rfl, ofQ_q, floor_is]
    have HD := fun w => rDiv_nat o.1 o.2 (den_pos q) w
    have HC := fun w => r7Check_q o w
    have hs : small (q.num.natAbs / q.den) := small_mono o.1 (Nat.div_le_self _ _)
    show Calls Tryz.prog 48 #[.agg #[.bool (decide (q < 0)), .string (nat q.num.natAbs), .string (nat q.den)]] w _
    generalize q.num.natAbs / q.den = Q at *
    generalize q.num.natAbs % q.den = R at *
    generalize decide (q < 0) = s at *
    by_cases h8 : (8 : Int) < ((nat Q).size : Int)
    · have hQ : ¬ Q < 256 ^ 8 := fun h => by have h2 := (enc_length_le_iff Q 8).2 h; have e : (nat Q).size = (enc Q).length := rfl; omega
      have h3 : (256 : Nat) ^ 8 = 18446744073709551616 := by decide
      rw [h3] at hQ
      have hw : within (if s = true then -((Q : Int) + (if R = 0 then 0 else 1)) else (Q : Int)) = (0, 2) := by
        unfold within
        rw [if_neg]
        cases s with
        | false => simp only [Bool.false_eq_true, if_false, Int.natAbs_natCast]; omega
        | true => simp only [if_true]; split <;> omega
      rw [hw]
      exact r7floor_l s _ _ (nat Q) (nat R) h8 HC HD w
    · cases s with
      | false =>
        rw [if_neg (by decide)]
        have e := wh_within false Q
        rw [if_neg (by decide)] at e
        rw [← e]
        exact r7floor_p _ _ (nat Q) (nat R) h8 _ _ HC HD (fun w => r7whole_nat false Q hs w) w
      | true =>
        rw [if_pos rfl]
        by_cases hR : R = 0
        · rw [if_pos hR, Int.add_zero]
          have e := wh_within true Q
          rw [if_pos rfl] at e
          rw [← e]
          exact r7floor_m _ _ (nat Q) (nat R) h8 _ _ (nat_empty hR).2 (nat_empty hR).1 HC HD (fun w => r7whole_nat true Q hs w) w
        · rw [if_neg hR]
          have e := wh_within true (Q + 1)
          rw [if_pos rfl, Int.natCast_add] at e
          have hQ := nat_eight h8
          have hs1 : small (Q + 1) := small_lt.2 (Nat.lt_of_le_of_lt (show Q + 1 ≤ 256 ^ 8 from hQ) (Nat.pow_lt_pow_right (by decide) (by decide)))
          rw [show ((Q : Int) + 1) = (Q : Int) + ((1 : Nat) : Int) from rfl, ← e]
          exact r7floor_i _ _ (nat Q) (nat R) h8 _ _ (nat_nonempty hR).2 (nat_nonempty hR).1 _ HC HD (fun w => rAdd_one hs hs1 w) (fun w => r7whole_nat true (Q + 1) hs1 w) w
theorem r7Ceil_any (r : RV) (hr : r.fits) (w : World) : Calls Tryz.prog 26 #[r.v] w fun e w' => e = .returned (.tuple #[.int .i64 (ceilR r).1, .int .i64 (ceilR r).2]) ∧ Below w.heap.size w w' := by
  unfold ceilR
  cases hok : r.ok with
  | false => exact r7ceil_bad r.neg r.n r.d 70 rfl (r7Check_bad hok hr) w
  | true =>
    obtain ⟨q, rfl, o⟩ := ok_of hok
    rw [if_pos rfl, ofQ_q]
    have hw : within (ceilQ q) = (-(within (-q).floor).1, (within (-q).floor).2) := by
      unfold ceilQ
      generalize (-q).floor = f
      unfold within
      rw [Int.natAbs_neg]
      split <;> rfl
    have hwr : IntKind.i64.wrap (-(within (-q).floor).1) = -(within (-q).floor).1 := by
      generalize (-q).floor = f
      refine Go.IntWalk.i64_in _ ?_
      unfold within
      split <;> constructor <;> dsimp only <;> omega
    rw [hw]
    have hs : decide (q < 0) = true ∧ decide (-q < 0) = false ∨ decide (q < 0) = false ∧ (nat q.num.natAbs).toList.isEmpty = true ∧ (nat q.num.natAbs).toList = [] ∧ decide (-q < 0) = false ∨ decide (q < 0) = false ∧ (nat q.num.natAbs).toList.isEmpty = false ∧ ¬ (nat q.num.natAbs).toList = [] ∧ decide (-q < 0) = true := by
      cases h : decide (q < 0) with
      | true => exact .inl ⟨rfl, op3_f q h⟩
      | false => exact .inr ((op3_t q h).imp (fun h => ⟨rfl, h⟩) (fun h => ⟨rfl, h⟩))
    refine r7ceil_ok _ (decide (-q < 0)) _ _ _ _ _ hwr (r7Check_q o) (r7opposite_gen _ _ _ _ hs) (fun w => ?_) w
    have := r7Floor_any (ofQ (-q)) ⟨nat_le (okQ_neg o).1, nat_le (okQ_neg o).2⟩ w
    rw [ofQ_v, qV_neg] at this
    unfold floorR at this
    rw [if_pos (ofQ_ok (okQ_neg o)), ofQ_q] at this
    exact this
end Go.Proofs.YteggbpaljmopoaaGreat
/- backflushref07: New at 0 and 1. -/
namespace Go.Proofs.YteggbpaljmopoaaGreat
open Go.RowKit BF

set_option maxRecDepth 100000 in
set_option maxHeartbeats 1000000 in
theorem rOf_0 (w : World) : Calls Tryz.prog 72 #[.int .i64 0] w fun e w' => e = .returned (.tuple #[.string { data := #[] }, .int .i64 0]) ∧ Below w.heap.size w w' := by
  go_enter Tryz.func72, Tryz.ntmps72
  go_wp2_with (fail)
  refine wp_loop_rounds 1 ?_
  rw [rounds_succ]
  go_wp2_with (fail)
  go_ret2
  exact ⟨rfl, Below.refl _ _⟩
set_option maxRecDepth 100000 in
set_option maxHeartbeats 1000000 in
theorem rOf_1 (w : World) : Calls Tryz.prog 72 #[.int .i64 1] w fun e w' => e = .returned (.tuple #[.string { data := #[1] }, .int .i64 0]) ∧ Below w.heap.size w w' := by
  obtain ⟨W, hW, hc, hb⟩ : ∃ W, w.alloc (.cells #[.int .u8 1] 5) = W ∧ ((convert 149 9 (.slice (some ⟨w.heap.size, 0, none⟩) 1 1)).run Tryz.prog W = .ok (.string { data := #[1] }) W) ∧ Hid (Below w.heap.size w W) := by
    refine ⟨_, rfl, ?_, (Below.refl _ w).alloc (Nat.le_refl _) _⟩
    have h : u8s (w.alloc (.cells #[.int .u8 1] 5)) w.heap.size (.slice (some ⟨w.heap.size, 0, none⟩) 1 1) [1] :=
      ⟨rfl, .inr ⟨w.heap.size, 1, #[.int .u8 1], rfl, Nat.le_refl _, (MapKept.heap_alloc w _).1, Nat.le_refl _, by decide, rfl, rfl⟩⟩
    exact u8s_string h
  go_enter Tryz.func72, Tryz.ntmps72
  go_wp2_with (fail)
  refine wp_loop_rounds 2 ?_
  rw [rounds_succ]
  go_wp2_with (fail)
  rw [rounds_succ]
  go_wp2_with (fail)
  go_ret2
  exact ⟨rfl, hb.out⟩
set_option maxRecDepth 100000 in
set_option maxHeartbeats 1000000 in
theorem r7amount (n : Int) (h0 : 0 ≤ n) (s : ByteArray) (H : Hid (∀ w : World, Calls Tryz.prog 72 #[.int .i64 n] w fun e w' => e = .returned (.tuple #[.string s, .int .i64 0]) ∧ Below w.heap.size w w')) (w : World) :
    Calls Tryz.prog 46 #[.int .i64 n] w fun e w' => e = .returned (.string s) ∧ Below w.heap.size w w' := by
  go_enter Tryz.func46, Tryz.ntmps46
  go_wp2_with (fail)
  refine (H.out _).mono ?_
  rintro e w1 ⟨rfl, hb⟩
  have HW := Lib.hid hb
  clear hb
  go_wp2
  go_ret
  exact ⟨rfl, HW.out⟩
set_option maxRecDepth 100000 in
set_option maxHeartbeats 1000000 in
theorem r7New_01 (w : World) : Calls Tryz.prog 22 #[.int .i64 0, .int .i64 1] w fun e w' => e = .returned (.tuple #[(ofQ 0).v, .int .i64 0]) ∧ Below w.heap.size w w' := by
  have HA1 := Lib.hid (fun w => r7amount 0 (by decide) _ rOf_0 w)
  have HA2 := Lib.hid (fun w => r7amount 1 (by decide) _ rOf_1 w)
  have HL : Hid (∀ w : World, Calls Tryz.prog 45 #[.bool false, .string { data := #[] }, .string { data := #[1] }] w fun e w' => e = .returned (.agg #[.bool false, .string { data := #[] }, .string { data := #[1] }]) ∧ Below w.heap.size w w') := fun w => by
    have h := r7lowest_any false 0 1 (by decide) (by decide) (by decide) w
    exact h
  have e0 : (ofQ 0).v = .agg #[.bool false, .string { data := #[] }, .string { data := #[1] }] := rfl
  rw [e0]
  obtain ⟨W0, hW0, HE, HW⟩ := one_box w #[.bool false, .string { data := #[] }, .string { data := #[] }]
  go_enter Tryz.func22, Tryz.ntmps22
  go_wp2_with (fail)
  refine (HA1.out _).mono ?_
  rintro e w1 ⟨rfl, hb1⟩
  have HE1 := Lib.hid (HE.out.under hb1)
  have HW1 := Lib.hid (HW.out.trans (hb1.mono HW.out.size))
  clear hb1
  go_wp2_with (fail)
  refine (HA2.out _).mono ?_
  rintro e w2 ⟨rfl, hb2⟩
  have HE2 := Lib.hid (HE1.out.under hb2)
  have HW2 := Lib.hid (HW1.out.trans (hb2.mono HW1.out.size))
  clear hb2
  go_wp2_with (fail)
  refine (HL.out _).mono ?_
  rintro e w3 ⟨rfl, hb3⟩
  have HE3 := Lib.hid (HE2.out.under hb3)
  have HW3 := Lib.hid (HW2.out.trans (hb3.mono HW2.out.size))
  clear hb3
  have r0 := HE3.out.cell (i := 0) rfl
  have r1 := HE3.out.cell (i := 1) rfl
  have r2 := HE3.out.cell (i := 2) rfl
  have fr := HE3.out.frozen
  go_wp2
  have HF := ((HE3.out.set (i := 0) (.bool false)).set (i := 1) (.string { data := #[] })).set (i := 2) (.string { data := #[1] })
  have e0 := HF.cell (i := 0) rfl
  have e1 := HF.cell (i := 1) rfl
  have e2 := HF.cell (i := 2) rfl
  refine bodyPost_ret (v := .tuple #[.agg #[.bool false, .string { data := #[] }, .string { data := #[1] }], .int .i64 0]) ?_ rfl ⟨rfl, ((HW3.out.setCell (by show w.heap.size ≤ w.heap.size; exact Nat.le_refl _) _).setCell (by show w.heap.size ≤ w.heap.size; exact Nat.le_refl _) _).setCell (by show w.heap.size ≤ w.heap.size; exact Nat.le_refl _) _⟩
  rw [results_cell_tmp rfl]
  go_simp
end Go.Proofs.YteggbpaljmopoaaGreat
