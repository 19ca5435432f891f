/- The reference of layer 17: its checks. Conditions: those that each theorem states. -/
import Derived.Test.YteggbpaljmopoaaGreatRefC
import Derived.Maps.AppendAt
import Derived.Deep.AppendLies
set_option linter.unusedVariables false
set_option linter.unusedSimpArgs false
/- backflushref17: in, sign, valid. PRINTED BY wip/gen_ref17.py -/
namespace Go.Proofs.YteggbpaljmopoaaGreat
open Go.RowKit BF

set_option maxRecDepth 100000 in
theorem s17in_any (n l m : Int) (w : World) : Calls Tryz.prog 51 #[.int .i64 n, .int .i64 l, .int .i64 m] w fun e w' => e = .returned (.bool (inB n l m)) ∧ w' = w := by
  by_cases h1 : l ≤ n
  · by_cases h2 : n ≤ m
    · have hf : inB n l m = true := by simp [inB, h1, h2]
      go_enter Tryz.func51, Tryz.ntmps51
      go_wp2
      go_ret
      exact ⟨by first | rfl | (rw [hf]; rfl), rfl⟩
    · have hf : inB n l m = false := by simp [inB, h1, h2]
      go_enter Tryz.func51, Tryz.ntmps51
      go_wp2
      go_ret
      exact ⟨by first | rfl | (rw [hf]; rfl), rfl⟩
  · have hf : inB n l m = false := by simp [inB, h1]
    go_enter Tryz.func51, Tryz.ntmps51
    go_wp2
    go_ret
    exact ⟨by first | rfl | (rw [hf]; rfl), rfl⟩

set_option maxRecDepth 100000 in
set_option maxHeartbeats 1000000 in
theorem s17positive_any (r : RV) (hr : r.fits) (w : World) : Calls Tryz.prog 52 #[r.v] w fun e w' => e = .returned (.bool r.pos) ∧ Below w.heap.size w w' := by
  have HC := Lib.hid (fun w => r7Check_r r hr w)
  unfold RV.pos
  clear hr
  generalize r.ok = ok at *
  obtain ⟨s, n, d⟩ := r
  unfold RV.v rV at *
  dsimp only at *
  have HA : Hid (Blk (w.alloc (.cells #[.bool s, .string n, .string d] 25)) w.heap.size 25 #[.bool s, .string n, .string d]) := Blk.new w _ _
  have HW : Hid (Below w.heap.size w (w.alloc (.cells #[.bool s, .string n, .string d] 25))) := (Below.refl _ w).alloc (Nat.le_refl _) _
  have c0 := HA.out.cell (i := 0) rfl
  have c1 := HA.out.cell (i := 1) rfl
  have c2 := HA.out.cell (i := 2) rfl
  go_enter Tryz.func52, Tryz.ntmps52
  go_wp2_with (fail)
  refine (HC.out _).mono ?_
  rintro e w1 ⟨rfl, hb⟩
  have HA1 := Lib.hid (HA.out.under hb)
  have HW1 := Lib.hid (HW.out.trans (hb.mono HW.out.size))
  clear hb c0 c1 c2
  have c0 := HA1.out.cell (i := 0) rfl
  cases ok with
  | false =>
    go_wp2
    go_ret
    exact ⟨rfl, HW1.out⟩
  | true =>
    go_wp2
    go_ret
    exact ⟨rfl, HW1.out⟩
set_option maxRecDepth 100000 in
set_option maxHeartbeats 1000000 in
theorem s17valid1 ( a b : Int) (s : Bool) (n d : ByteArray) (k : Int) (i j : Bool) (w : World)
    (H1 : Hid (∀ w : World, Calls Tryz.prog 51 #[.int .i64 a, .int .i64 (-2), .int .i64 5] w fun e w' => e = .returned (.bool i) ∧ w' = w))
    (H2 : Hid (∀ w : World, Calls Tryz.prog 51 #[.int .i64 b, .int .i64 0, .int .i64 1024] w fun e w' => e = .returned (.bool j) ∧ w' = w)) :
    Calls Tryz.prog 28 #[.agg #[.int .i64 1, .int .i64 a, .int .i64 b, .bool s, .string n, .string d], .int .i64 k] w fun e w' => e = .returned (.bool (i && j && decide (2 ≤ k))) ∧ Below w.heap.size w w' := by
  have HA : Hid (Blk (w.alloc (.cells #[.int .i64 1, .int .i64 a, .int .i64 b, .bool s, .string n, .string d] 40)) w.heap.size 40 #[.int .i64 1, .int .i64 a, .int .i64 b, .bool s, .string n, .string d]) := Blk.new w _ _
  have HW : Hid (Below w.heap.size w (w.alloc (.cells #[.int .i64 1, .int .i64 a, .int .i64 b, .bool s, .string n, .string d] 40))) := (Below.refl _ w).alloc (Nat.le_refl _) _
  have c0 := HA.out.cell (i := 0) rfl
  have c1 := HA.out.cell (i := 1) rfl
  have c2 := HA.out.cell (i := 2) rfl
  have c3 := HA.out.cell (i := 3) rfl
  have c4 := HA.out.cell (i := 4) rfl
  have c5 := HA.out.cell (i := 5) rfl
  go_enter Tryz.func28, Tryz.ntmps28
  go_wp2_with (fail)
  refine (H1.out _).mono ?_
  rintro e w1 ⟨rfl, rfl⟩
  cases i with
  | false =>
    go_wp2
    go_ret
    exact ⟨by first | rfl | (simp [*]; done) | (simp [*]; omega), HW.out⟩
  | true =>
    go_wp2_with (fail)
    refine (H2.out _).mono ?_
    rintro e w1 ⟨rfl, rfl⟩
    cases j with
    | false =>
      go_wp2
      go_ret
      exact ⟨by first | rfl | (simp [*]; done) | (simp [*]; omega), HW.out⟩
    | true =>
      by_cases h : 2 ≤ k
      · go_wp2
        go_ret
        exact ⟨by first | rfl | (simp [*]; done) | (simp [*]; omega), HW.out⟩
      · go_wp2
        go_ret
        exact ⟨by first | rfl | (simp [*]; done) | (simp [*]; omega), HW.out⟩

set_option maxRecDepth 100000 in
set_option maxHeartbeats 1000000 in
theorem s17valid2 ( a b : Int) (s : Bool) (n d : ByteArray) (k : Int)  (w : World) :
    Calls Tryz.prog 28 #[.agg #[.int .i64 2, .int .i64 a, .int .i64 b, .bool s, .string n, .string d], .int .i64 k] w fun e w' => e = .returned (.bool (decide (0 ≤ a) && decide (a < k))) ∧ Below w.heap.size w w' := by
  have HA : Hid (Blk (w.alloc (.cells #[.int .i64 2, .int .i64 a, .int .i64 b, .bool s, .string n, .string d] 40)) w.heap.size 40 #[.int .i64 2, .int .i64 a, .int .i64 b, .bool s, .string n, .string d]) := Blk.new w _ _
  have HW : Hid (Below w.heap.size w (w.alloc (.cells #[.int .i64 2, .int .i64 a, .int .i64 b, .bool s, .string n, .string d] 40))) := (Below.refl _ w).alloc (Nat.le_refl _) _
  have c0 := HA.out.cell (i := 0) rfl
  have c1 := HA.out.cell (i := 1) rfl
  have c2 := HA.out.cell (i := 2) rfl
  have c3 := HA.out.cell (i := 3) rfl
  have c4 := HA.out.cell (i := 4) rfl
  have c5 := HA.out.cell (i := 5) rfl
  go_enter Tryz.func28, Tryz.ntmps28
  by_cases h1 : 0 ≤ a
  · by_cases h2 : a < k
    · go_wp2
      go_ret
      exact ⟨by first | rfl | (simp [*]; done) | (simp [*]; omega), HW.out⟩
    · go_wp2
      go_ret
      exact ⟨by first | rfl | (simp [*]; done) | (simp [*]; omega), HW.out⟩
  · go_wp2
    go_ret
    exact ⟨by first | rfl | (simp [*]; done) | (simp [*]; omega), HW.out⟩

set_option maxRecDepth 100000 in
set_option maxHeartbeats 1000000 in
theorem s17valid3 ( a b : Int) (s : Bool) (n d : ByteArray) (k : Int) (p i j : Bool) (w : World)
    (HP : Hid (∀ w : World, Calls Tryz.prog 52 #[.agg #[.bool s, .string n, .string d]] w fun e w' => e = .returned (.bool p) ∧ Below w.heap.size w w'))
    (H1 : Hid (∀ w : World, Calls Tryz.prog 51 #[.int .i64 a, .int .i64 0, .int .i64 63] w fun e w' => e = .returned (.bool i) ∧ w' = w))
    (H2 : Hid (∀ w : World, Calls Tryz.prog 51 #[.int .i64 b, .int .i64 0, .int .i64 15] w fun e w' => e = .returned (.bool j) ∧ w' = w)) :
    Calls Tryz.prog 28 #[.agg #[.int .i64 3, .int .i64 a, .int .i64 b, .bool s, .string n, .string d], .int .i64 k] w fun e w' => e = .returned (.bool (p && !n.toList.isEmpty && i && j)) ∧ Below w.heap.size w w' := by
  have HA : Hid (Blk (w.alloc (.cells #[.int .i64 3, .int .i64 a, .int .i64 b, .bool s, .string n, .string d] 40)) w.heap.size 40 #[.int .i64 3, .int .i64 a, .int .i64 b, .bool s, .string n, .string d]) := Blk.new w _ _
  have HW : Hid (Below w.heap.size w (w.alloc (.cells #[.int .i64 3, .int .i64 a, .int .i64 b, .bool s, .string n, .string d] 40))) := (Below.refl _ w).alloc (Nat.le_refl _) _
  have c0 := HA.out.cell (i := 0) rfl
  have c1 := HA.out.cell (i := 1) rfl
  have c2 := HA.out.cell (i := 2) rfl
  have c3 := HA.out.cell (i := 3) rfl
  have c4 := HA.out.cell (i := 4) rfl
  have c5 := HA.out.cell (i := 5) rfl
  go_enter Tryz.func28, Tryz.ntmps28
  go_wp2_with (fail)
  refine (HP.out _).mono ?_
  rintro e w1 ⟨rfl, hb⟩
  have HA1 := Lib.hid (HA.out.under hb)
  have HW1 := Lib.hid (HW.out.trans (hb.mono HW.out.size))
  clear hb c0 c1 c2 c3 c4 c5 HA HW
  rename Hid (Blk w1 _ _ _) => HA
  rename Hid (Below _ _ w1) => HW
  have c0 := HA.out.cell (i := 0) rfl
  have c1 := HA.out.cell (i := 1) rfl
  have c2 := HA.out.cell (i := 2) rfl
  have c3 := HA.out.cell (i := 3) rfl
  have c4 := HA.out.cell (i := 4) rfl
  have c5 := HA.out.cell (i := 5) rfl
  cases p with
  | false =>
    go_wp2
    go_ret
    exact ⟨by first | rfl | (simp [*]; done) | (simp [*]; omega), HW.out⟩
  | true =>
    obtain ⟨z1, z2⟩ | ⟨z1, z2⟩ : (n.toList.isEmpty = true ∧ n.toList = []) ∨ (n.toList.isEmpty = false ∧ ¬ n.toList = []) := by
      by_cases h : n.toList = []
      · exact .inl ⟨by simp [h], h⟩
      · exact .inr ⟨by simpa using h, h⟩
    · go_wp2
      go_ret
      exact ⟨by first | rfl | (simp [*]; done) | (simp [*]; omega), HW.out⟩
    · go_wp2_with (fail)
      refine (H1.out _).mono ?_
      rintro e w1 ⟨rfl, rfl⟩
      cases i with
      | false =>
        go_wp2
        go_ret
        exact ⟨by first | rfl | (simp [*]; done) | (simp [*]; omega), HW.out⟩
      | true =>
        go_wp2_with (fail)
        refine (H2.out _).mono ?_
        rintro e w1 ⟨rfl, rfl⟩
        cases j with
        | false =>
          go_wp2
          go_ret
          exact ⟨by first | rfl | (simp [*]; done) | (simp [*]; omega), HW.out⟩
        | true =>
          go_wp2
          go_ret
          exact ⟨by first | rfl | (simp [*]; done) | (simp [*]; omega), HW.out⟩

set_option maxRecDepth 100000 in
set_option maxHeartbeats 1000000 in
theorem s17valid4 ( a b : Int) (s : Bool) (n d : ByteArray) (k : Int) (p i j : Bool) (w : World)
    (HP : Hid (∀ w : World, Calls Tryz.prog 52 #[.agg #[.bool s, .string n, .string d]] w fun e w' => e = .returned (.bool p) ∧ Below w.heap.size w w'))
    (H1 : Hid (∀ w : World, Calls Tryz.prog 51 #[.int .i64 a, .int .i64 0, .int .i64 31] w fun e w' => e = .returned (.bool i) ∧ w' = w))
    (H2 : Hid (∀ w : World, Calls Tryz.prog 51 #[.int .i64 b, .int .i64 0, .int .i64 1] w fun e w' => e = .returned (.bool j) ∧ w' = w)) :
    Calls Tryz.prog 28 #[.agg #[.int .i64 4, .int .i64 a, .int .i64 b, .bool s, .string n, .string d], .int .i64 k] w fun e w' => e = .returned (.bool (p && i && j)) ∧ Below w.heap.size w w' := by
  have HA : Hid (Blk (w.alloc (.cells #[.int .i64 4, .int .i64 a, .int .i64 b, .bool s, .string n, .string d] 40)) w.heap.size 40 #[.int .i64 4, .int .i64 a, .int .i64 b, .bool s, .string n, .string d]) := Blk.new w _ _
  have HW : Hid (Below w.heap.size w (w.alloc (.cells #[.int .i64 4, .int .i64 a, .int .i64 b, .bool s, .string n, .string d] 40))) := (Below.refl _ w).alloc (Nat.le_refl _) _
  have c0 := HA.out.cell (i := 0) rfl
  have c1 := HA.out.cell (i := 1) rfl
  have c2 := HA.out.cell (i := 2) rfl
  have c3 := HA.out.cell (i := 3) rfl
  have c4 := HA.out.cell (i := 4) rfl
  have c5 := HA.out.cell (i := 5) rfl
  go_enter Tryz.func28, Tryz.ntmps28
  go_wp2_with (fail)
  refine (HP.out _).mono ?_
  rintro e w1 ⟨rfl, hb⟩
  have HA1 := Lib.hid (HA.out.under hb)
  have HW1 := Lib.hid (HW.out.trans (hb.mono HW.out.size))
  clear hb c0 c1 c2 c3 c4 c5 HA HW
  rename Hid (Blk w1 _ _ _) => HA
  rename Hid (Below _ _ w1) => HW
  have c0 := HA.out.cell (i := 0) rfl
  have c1 := HA.out.cell (i := 1) rfl
  have c2 := HA.out.cell (i := 2) rfl
  have c3 := HA.out.cell (i := 3) rfl
  have c4 := HA.out.cell (i := 4) rfl
  have c5 := HA.out.cell (i := 5) rfl
  cases p with
  | false =>
    go_wp2
    go_ret
    exact ⟨by first | rfl | (simp [*]; done) | (simp [*]; omega), HW.out⟩
  | true =>
    go_wp2_with (fail)
    refine (H1.out _).mono ?_
    rintro e w1 ⟨rfl, rfl⟩
    cases i with
    | false =>
      go_wp2
      go_ret
      exact ⟨by first | rfl | (simp [*]; done) | (simp [*]; omega), HW.out⟩
    | true =>
      go_wp2_with (fail)
      refine (H2.out _).mono ?_
      rintro e w1 ⟨rfl, rfl⟩
      cases j with
      | false =>
        go_wp2
        go_ret
        exact ⟨by first | rfl | (simp [*]; done) | (simp [*]; omega), HW.out⟩
      | true =>
        go_wp2
        go_ret
        exact ⟨by first | rfl | (simp [*]; done) | (simp [*]; omega), HW.out⟩

set_option maxRecDepth 100000 in
set_option maxHeartbeats 1000000 in
theorem s17valid5 ( a b : Int) (s : Bool) (n d : ByteArray) (k : Int) (p i : Bool) (w : World)
    (HP : Hid (∀ w : World, Calls Tryz.prog 52 #[.agg #[.bool s, .string n, .string d]] w fun e w' => e = .returned (.bool p) ∧ Below w.heap.size w w'))
    (H1 : Hid (∀ w : World, Calls Tryz.prog 51 #[.int .i64 a, .int .i64 0, .int .i64 31] w fun e w' => e = .returned (.bool i) ∧ w' = w)) :
    Calls Tryz.prog 28 #[.agg #[.int .i64 5, .int .i64 a, .int .i64 b, .bool s, .string n, .string d], .int .i64 k] w fun e w' => e = .returned (.bool (p && i && decide (b = 0))) ∧ Below w.heap.size w w' := by
  have HA : Hid (Blk (w.alloc (.cells #[.int .i64 5, .int .i64 a, .int .i64 b, .bool s, .string n, .string d] 40)) w.heap.size 40 #[.int .i64 5, .int .i64 a, .int .i64 b, .bool s, .string n, .string d]) := Blk.new w _ _
  have HW : Hid (Below w.heap.size w (w.alloc (.cells #[.int .i64 5, .int .i64 a, .int .i64 b, .bool s, .string n, .string d] 40))) := (Below.refl _ w).alloc (Nat.le_refl _) _
  have c0 := HA.out.cell (i := 0) rfl
  have c1 := HA.out.cell (i := 1) rfl
  have c2 := HA.out.cell (i := 2) rfl
  have c3 := HA.out.cell (i := 3) rfl
  have c4 := HA.out.cell (i := 4) rfl
  have c5 := HA.out.cell (i := 5) rfl
  go_enter Tryz.func28, Tryz.ntmps28
  go_wp2_with (fail)
  refine (HP.out _).mono ?_
  rintro e w1 ⟨rfl, hb⟩
  have HA1 := Lib.hid (HA.out.under hb)
  have HW1 := Lib.hid (HW.out.trans (hb.mono HW.out.size))
  clear hb c0 c1 c2 c3 c4 c5 HA HW
  rename Hid (Blk w1 _ _ _) => HA
  rename Hid (Below _ _ w1) => HW
  have c0 := HA.out.cell (i := 0) rfl
  have c1 := HA.out.cell (i := 1) rfl
  have c2 := HA.out.cell (i := 2) rfl
  have c3 := HA.out.cell (i := 3) rfl
  have c4 := HA.out.cell (i := 4) rfl
  have c5 := HA.out.cell (i := 5) rfl
  cases p with
  | false =>
    go_wp2
    go_ret
    exact ⟨by first | rfl | (simp [*]; done) | (simp [*]; omega), HW.out⟩
  | true =>
    go_wp2_with (fail)
    refine (H1.out _).mono ?_
    rintro e w1 ⟨rfl, rfl⟩
    cases i with
    | false =>
      go_wp2
      go_ret
      exact ⟨by first | rfl | (simp [*]; done) | (simp [*]; omega), HW.out⟩
    | true =>
      by_cases h : b = 0
      · go_wp2
        go_ret
        exact ⟨by first | rfl | (simp [*]; done) | (simp [*]; omega), HW.out⟩
      · go_wp2
        go_ret
        exact ⟨by first | rfl | (simp [*]; done) | (simp [*]; omega), HW.out⟩

set_option maxRecDepth 100000 in
set_option maxHeartbeats 1000000 in
theorem s17valid6 ( a b : Int) (s : Bool) (n d : ByteArray) (k : Int) (i j : Bool) (w : World)
    (H1 : Hid (∀ w : World, Calls Tryz.prog 51 #[.int .i64 a, .int .i64 0, .int .i64 15] w fun e w' => e = .returned (.bool i) ∧ w' = w))
    (H2 : Hid (∀ w : World, Calls Tryz.prog 51 #[.int .i64 b, .int .i64 0, .int .i64 15] w fun e w' => e = .returned (.bool j) ∧ w' = w)) :
    Calls Tryz.prog 28 #[.agg #[.int .i64 6, .int .i64 a, .int .i64 b, .bool s, .string n, .string d], .int .i64 k] w fun e w' => e = .returned (.bool (i && j)) ∧ Below w.heap.size w w' := by
  have HA : Hid (Blk (w.alloc (.cells #[.int .i64 6, .int .i64 a, .int .i64 b, .bool s, .string n, .string d] 40)) w.heap.size 40 #[.int .i64 6, .int .i64 a, .int .i64 b, .bool s, .string n, .string d]) := Blk.new w _ _
  have HW : Hid (Below w.heap.size w (w.alloc (.cells #[.int .i64 6, .int .i64 a, .int .i64 b, .bool s, .string n, .string d] 40))) := (Below.refl _ w).alloc (Nat.le_refl _) _
  have c0 := HA.out.cell (i := 0) rfl
  have c1 := HA.out.cell (i := 1) rfl
  have c2 := HA.out.cell (i := 2) rfl
  have c3 := HA.out.cell (i := 3) rfl
  have c4 := HA.out.cell (i := 4) rfl
  have c5 := HA.out.cell (i := 5) rfl
  go_enter Tryz.func28, Tryz.ntmps28
  go_wp2_with (fail)
  refine (H1.out _).mono ?_
  rintro e w1 ⟨rfl, rfl⟩
  cases i with
  | false =>
    go_wp2
    go_ret
    exact ⟨by first | rfl | (simp [*]; done) | (simp [*]; omega), HW.out⟩
  | true =>
    go_wp2_with (fail)
    refine (H2.out _).mono ?_
    rintro e w1 ⟨rfl, rfl⟩
    cases j with
    | false =>
      go_wp2
      go_ret
      exact ⟨by first | rfl | (simp [*]; done) | (simp [*]; omega), HW.out⟩
    | true =>
      go_wp2
      go_ret
      exact ⟨by first | rfl | (simp [*]; done) | (simp [*]; omega), HW.out⟩

set_option maxRecDepth 100000 in
set_option maxHeartbeats 1000000 in
theorem s17valid7 ( a b : Int) (s : Bool) (n d : ByteArray) (k : Int)  (w : World) :
    Calls Tryz.prog 28 #[.agg #[.int .i64 7, .int .i64 a, .int .i64 b, .bool s, .string n, .string d], .int .i64 k] w fun e w' => e = .returned (.bool (true)) ∧ Below w.heap.size w w' := by
  have HA : Hid (Blk (w.alloc (.cells #[.int .i64 7, .int .i64 a, .int .i64 b, .bool s, .string n, .string d] 40)) w.heap.size 40 #[.int .i64 7, .int .i64 a, .int .i64 b, .bool s, .string n, .string d]) := Blk.new w _ _
  have HW : Hid (Below w.heap.size w (w.alloc (.cells #[.int .i64 7, .int .i64 a, .int .i64 b, .bool s, .string n, .string d] 40))) := (Below.refl _ w).alloc (Nat.le_refl _) _
  have c0 := HA.out.cell (i := 0) rfl
  have c1 := HA.out.cell (i := 1) rfl
  have c2 := HA.out.cell (i := 2) rfl
  have c3 := HA.out.cell (i := 3) rfl
  have c4 := HA.out.cell (i := 4) rfl
  have c5 := HA.out.cell (i := 5) rfl
  go_enter Tryz.func28, Tryz.ntmps28
  go_wp2
  go_ret
  exact ⟨by first | rfl | (simp [*]; done) | (simp [*]; omega), HW.out⟩

set_option maxRecDepth 100000 in
set_option maxHeartbeats 1000000 in
theorem s17valid8 ( a b : Int) (s : Bool) (n d : ByteArray) (k : Int)  (w : World) :
    Calls Tryz.prog 28 #[.agg #[.int .i64 8, .int .i64 a, .int .i64 b, .bool s, .string n, .string d], .int .i64 k] w fun e w' => e = .returned (.bool (true)) ∧ Below w.heap.size w w' := by
  have HA : Hid (Blk (w.alloc (.cells #[.int .i64 8, .int .i64 a, .int .i64 b, .bool s, .string n, .string d] 40)) w.heap.size 40 #[.int .i64 8, .int .i64 a, .int .i64 b, .bool s, .string n, .string d]) := Blk.new w _ _
  have HW : Hid (Below w.heap.size w (w.alloc (.cells #[.int .i64 8, .int .i64 a, .int .i64 b, .bool s, .string n, .string d] 40))) := (Below.refl _ w).alloc (Nat.le_refl _) _
  have c0 := HA.out.cell (i := 0) rfl
  have c1 := HA.out.cell (i := 1) rfl
  have c2 := HA.out.cell (i := 2) rfl
  have c3 := HA.out.cell (i := 3) rfl
  have c4 := HA.out.cell (i := 4) rfl
  have c5 := HA.out.cell (i := 5) rfl
  go_enter Tryz.func28, Tryz.ntmps28
  go_wp2
  go_ret
  exact ⟨by first | rfl | (simp [*]; done) | (simp [*]; omega), HW.out⟩

set_option maxRecDepth 100000 in
set_option maxHeartbeats 1000000 in
theorem s17valid9 (op a b : Int) (s : Bool) (n d : ByteArray) (k : Int) (h1 : (op == 1) = false) (h2 : (op == 2) = false) (h3 : (op == 3) = false) (h4 : (op == 4) = false) (h5 : (op == 5) = false) (h6 : (op == 6) = false) (h7 : (op == 7) = false) (h8 : (op == 8) = false) (w : World) :
    Calls Tryz.prog 28 #[.agg #[.int .i64 op, .int .i64 a, .int .i64 b, .bool s, .string n, .string d], .int .i64 k] w fun e w' => e = .returned (.bool (false)) ∧ Below w.heap.size w w' := by
  have HA : Hid (Blk (w.alloc (.cells #[.int .i64 op, .int .i64 a, .int .i64 b, .bool s, .string n, .string d] 40)) w.heap.size 40 #[.int .i64 op, .int .i64 a, .int .i64 b, .bool s, .string n, .string d]) := Blk.new w _ _
  have HW : Hid (Below w.heap.size w (w.alloc (.cells #[.int .i64 op, .int .i64 a, .int .i64 b, .bool s, .string n, .string d] 40))) := (Below.refl _ w).alloc (Nat.le_refl _) _
  have c0 := HA.out.cell (i := 0) rfl
  have c1 := HA.out.cell (i := 1) rfl
  have c2 := HA.out.cell (i := 2) rfl
  have c3 := HA.out.cell (i := 3) rfl
  have c4 := HA.out.cell (i := 4) rfl
  have c5 := HA.out.cell (i := 5) rfl
  go_enter Tryz.func28, Tryz.ntmps28
  go_wp2
  go_ret
  exact ⟨by first | rfl | (simp [*]; done) | (simp [*]; omega), HW.out⟩

theorem s17mvalid_any (x : Ins) (hx : x.r.fits) (k : Int) (w : World) : Calls Tryz.prog 28 #[x.v, .int .i64 k] w fun e w' => e = .returned (.bool (validI x k)) ∧ Below w.heap.size w w' := by
  obtain ⟨op, a, b, r⟩ := x
  obtain ⟨s, n, d⟩ := r
  have HP := fun w => s17positive_any ⟨s, n, d⟩ hx w
  unfold validI
  dsimp only
  by_cases h1 : op = 1
  · subst h1; exact s17valid1 _ _ _ _ _ _ _ _ _ (fun w => s17in_any _ _ _ w) (fun w => s17in_any _ _ _ w)
  by_cases h2 : op = 2
  · subst h2; exact s17valid2 _ _ _ _ _ _ _
  by_cases h3 : op = 3
  · subst h3; exact s17valid3 _ _ _ _ _ _ _ _ _ _ HP (fun w => s17in_any _ _ _ w) (fun w => s17in_any _ _ _ w)
  by_cases h4 : op = 4
  · subst h4; exact s17valid4 _ _ _ _ _ _ _ _ _ _ HP (fun w => s17in_any _ _ _ w) (fun w => s17in_any _ _ _ w)
  by_cases h5 : op = 5
  · subst h5; exact s17valid5 _ _ _ _ _ _ _ _ _ HP (fun w => s17in_any _ _ _ w)
  by_cases h6 : op = 6
  · subst h6; exact s17valid6 _ _ _ _ _ _ _ _ _ (fun w => s17in_any _ _ _ w) (fun w => s17in_any _ _ _ w)
  by_cases h7 : op = 7
  · subst h7; exact s17valid7 _ _ _ _ _ _ _
  by_cases h8 : op = 8
  · subst h8; exact s17valid8 _ _ _ _ _ _ _
  simp only [if_neg h1, if_neg h2, if_neg h3, if_neg h4, if_neg h5, if_neg h6, decide_eq_false h7, decide_eq_false h8, Bool.or_false]
  exact s17valid9 _ _ _ _ _ _ _ (by simpa using h1) (by simpa using h2) (by simpa using h3) (by simpa using h4) (by simpa using h5) (by simpa using h6) (by simpa using h7) (by simpa using h8) _
end Go.Proofs.YteggbpaljmopoaaGreat
/- backflushref17: Check, holds. PRINTED BY wip/gen_ref17b.py -/
namespace Go.Proofs.YteggbpaljmopoaaGreat
open Go.RowKit BF

set_option maxRecDepth 100000 in
set_option maxHeartbeats 1000000 in
theorem s17Check_nil (p : Option Addr) (cap : Nat) (w : World) : Calls Tryz.prog 10 #[.slice p 0 cap] w fun e w' => e = .returned (.int .i64 171) ∧ Below w.heap.size w w' := by
  go_enter Tryz.func10, Tryz.ntmps10
  go_wp2
  go_ret
  exact ⟨rfl, Below.refl _ _⟩

set_option maxRecDepth 100000 in
set_option maxHeartbeats 1000000 in
theorem s17Check_last (g o cap n : Nat) (op : Int) (hn : 1 ≤ n) (hn' : n ≤ 60) (w : World) (hc : w.cell? ⟨g, o + (n - 1) * 6, none⟩ = some (.int .i64 op)) (h7 : (op != 7) = true) (h8 : (op != 8) = true) :
    Calls Tryz.prog 10 #[.slice (some ⟨g, o, none⟩) n cap] w fun e w' => e = .returned (.int .i64 171) ∧ Below w.heap.size w w' := by
  go_enter Tryz.func10, Tryz.ntmps10
  go_wp2
  go_ret
  exact ⟨rfl, Below.refl _ _⟩

set_option maxRecDepth 100000 in
set_option maxHeartbeats 1000000 in
theorem s17Check_loop (g o cap n : Nat) (hn : 1 ≤ n) (hn' : n ≤ 60) (xs : List Ins) (HL : Hid (xs.length = n)) (w : World) (HC : Hid (CodeAt w g o xs)) (HF : Hid (∀ x ∈ xs, x.r.fits)) (op : Int) (hop : (op == 7) = true ∨ (op == 8) = true)
    (hc : w.cell? ⟨g, o + (n - 1) * 6, none⟩ = some (.int .i64 op)) (M : Int) (HM : Hid (M = if allV xs = true then 0 else 171)) :
    Calls Tryz.prog 10 #[.slice (some ⟨g, o, none⟩) n cap] w fun e w' => e = .returned (.int .i64 M) ∧ Below w.heap.size w w' := by
  have hop' : (op != 7) = true ∧ op = 8 ∨ op = 7 := by
    by_cases h : op = 7
    · exact .inr h
    · refine .inl ⟨by simpa using h, ?_⟩
      rcases hop with h1 | h1
      · exact absurd (by simpa using h1) h
      · simpa using h1
  clear hop
  go_enter Tryz.func10, Tryz.ntmps10
  rcases hop' with ⟨h1, rfl⟩ | rfl
  all_goals
    go_wp2
    go_loopw [4] (fun i wr => ∃ k : Nat, k ≤ n ∧ i = .int .i64 (k : Int) ∧ Hid (Below w.heap.size w wr) ∧ Hid (allV xs = allV (xs.drop k))) (fun i _ => n - (intOf i).toNat)
    case atStart => exact ⟨0, Nat.zero_le _, rfl, Below.refl _ _, rfl⟩
    case round =>
      obtain ⟨k, hk, rfl, HW, HV⟩ := hrel
      by_cases hkn : k < n
      · have hkl : k < xs.length := by rw [HL.out]; exact hkn
        have hIns := (HC.out.below HW.out HC.out.1).2 k hkl
        have HNX := Lib.hid (allV_step xs k hkl HV.out)
        have HVAL := Lib.hid (fun w => s17mvalid_any xs[k] (HF.out _ (List.getElem_mem hkl)) ((xs.length - 1 - k : Nat) : Int) w)
        generalize validI xs[k] ((xs.length - 1 - k : Nat) : Int) = b at *
        have hj : ((xs.length - 1 - k : Nat) : Int) = (n : Int) - 1 - k := by rw [HL.out]; omega
        rw [hj] at HVAL
        generalize xs[k] = x at *
        clear hj hkl
        obtain ⟨op, a, b', s, nn, d⟩ := x
        unfold Ins.v at HVAL
        obtain ⟨c0, c1, c2, c3, c4, c5⟩ := hIns
        dsimp only at *
        cases b with
        | false =>
          go_wp2_with (fail)
          refine (HVAL.out _).mono ?_
          rintro e w1 ⟨rfl, hb⟩
          have HW1 := Lib.hid (HW.out.trans (hb.mono HW.out.size))
          clear hb
          go_wp2
          go_ret
          exact ⟨by rw [HM.out, HNX.out.2 (by first | rfl | trivial)]; rfl, HW1.out⟩
        | true =>
          go_wp2_with (fail)
          refine (HVAL.out _).mono ?_
          rintro e w1 ⟨rfl, hb⟩
          have HW1 := Lib.hid (HW.out.trans (hb.mono HW.out.size))
          clear hb
          go_wp2
          go_roundw
          case rel => exact ⟨k + 1, by omega, by go_num, HW1.out, HNX.out.1 (by first | rfl | trivial)⟩
          case measure => simp [intOf]; omega
      · obtain rfl : k = n := by omega
        go_wp2
        go_ret
        refine ⟨?_, HW.out⟩
        rw [HM.out, show allV xs = true by rw [HV.out, ← HL.out, List.drop_length]; rfl]; rfl

theorem s17Check_any (g o cap : Nat) (xs : List Ins) (hne : xs ≠ []) (hn : xs.length ≤ 60) (w : World) (hc : CodeAt w g o xs) (hf : ∀ x ∈ xs, x.r.fits) :
    Calls Tryz.prog 10 #[.slice (some ⟨g, o, none⟩) xs.length cap] w fun e w' => e = .returned (.int .i64 (checkM xs)) ∧ Below w.heap.size w w' := by
  have hl : 1 ≤ xs.length := List.length_pos_iff.2 hne
  have h0 := (hc.2 (xs.length - 1) (by omega)).1
  by_cases h : lastOk xs = true
  · have := s17Check_loop g o cap xs.length hl hn xs rfl w hc hf _ (by rw [lastOk_get xs hne] at h; simpa using h) h0 _ rfl
    unfold checkM
    rw [h]
    exact this
  · rw [checkM_last xs (by simpa using h)]
    rw [lastOk_get xs hne] at h
    simp only [Bool.or_eq_true, decide_eq_true_eq, not_or] at h
    exact s17Check_last g o cap xs.length _ hl hn w h0 (by simpa using h.1) (by simpa using h.2)
theorem s17Check_is (w : World) (v : Value) (xs : List Ins) (h : CodeIs w v xs) (hn : xs.length ≤ 60) (hf : ∀ x ∈ xs, x.r.fits) :
    Calls Tryz.prog 10 #[v] w fun e w' => e = .returned (.int .i64 (checkM xs)) ∧ Below w.heap.size w w' := by
  rcases h with ⟨p, cap, rfl, rfl⟩ | ⟨g, o, cap, rfl, h2, h3⟩
  · exact s17Check_nil p cap w
  · exact s17Check_any g o cap xs h2 hn w h3 hf
set_option maxRecDepth 100000 in
set_option maxHeartbeats 1000000 in
theorem s17holds_1 (op xb : Int) (s : Bool) (nn d : ByteArray) (day : Int) (cg co n cap : Nat) (hn : 1 ≤ n) (hn2 : n ≤ 1000) (w : World) (hc : w.cell? ⟨cg, co + (n - 1), none⟩ = some (.int .i64 day)) :
    Calls Tryz.prog 23 #[.agg #[.int .i64 op, .int .i64 (-1), .int .i64 xb, .bool s, .string nn, .string d], .slice (some ⟨cg, co, none⟩) n cap] w fun e w' => e = .returned (.bool (decide (xb ≤ day))) ∧ Below w.heap.size w w' := by
  obtain ⟨W0, hW0, HX, HW⟩ : ∃ W, w.alloc (.cells #[.int .i64 op, .int .i64 (-1), .int .i64 xb, .bool s, .string nn, .string d] 40) = W ∧ Hid (Blk W w.heap.size 40 #[.int .i64 op, .int .i64 (-1), .int .i64 xb, .bool s, .string nn, .string d]) ∧ Hid (Below w.heap.size w W) := ⟨_, rfl, Blk.new w _ _, (Below.refl _ w).alloc (Nat.le_refl _) _⟩
  have hc1 := old_cell hc (.cells #[.int .i64 op, .int .i64 (-1), .int .i64 xb, .bool s, .string nn, .string d] 40)
  rw [hW0] at hc1
  have x1 := HX.out.cell (i := 1) rfl
  have x2 := HX.out.cell (i := 2) rfl
  clear hc
  go_enter Tryz.func23, Tryz.ntmps23
  go_wp2
  go_ret
  exact ⟨by first | rfl | simp, HW.out⟩
set_option maxRecDepth 100000 in
set_option maxHeartbeats 1000000 in
theorem s17holds_2 (op xb : Int) (s : Bool) (nn d : ByteArray) (day : Int) (cg co n cap : Nat) (hn : 1 ≤ n) (hn2 : n ≤ 1000) (w : World) (hc : w.cell? ⟨cg, co + (n - 1), none⟩ = some (.int .i64 day)) :
    Calls Tryz.prog 23 #[.agg #[.int .i64 op, .int .i64 (-2), .int .i64 xb, .bool s, .string nn, .string d], .slice (some ⟨cg, co, none⟩) n cap] w fun e w' => e = .returned (.bool (decide (day < xb))) ∧ Below w.heap.size w w' := by
  obtain ⟨W0, hW0, HX, HW⟩ : ∃ W, w.alloc (.cells #[.int .i64 op, .int .i64 (-2), .int .i64 xb, .bool s, .string nn, .string d] 40) = W ∧ Hid (Blk W w.heap.size 40 #[.int .i64 op, .int .i64 (-2), .int .i64 xb, .bool s, .string nn, .string d]) ∧ Hid (Below w.heap.size w W) := ⟨_, rfl, Blk.new w _ _, (Below.refl _ w).alloc (Nat.le_refl _) _⟩
  have hc1 := old_cell hc (.cells #[.int .i64 op, .int .i64 (-2), .int .i64 xb, .bool s, .string nn, .string d] 40)
  rw [hW0] at hc1
  have x1 := HX.out.cell (i := 1) rfl
  have x2 := HX.out.cell (i := 2) rfl
  clear hc
  go_enter Tryz.func23, Tryz.ntmps23
  go_wp2
  go_ret
  exact ⟨by first | rfl | simp, HW.out⟩
set_option maxRecDepth 100000 in
set_option maxHeartbeats 1000000 in
theorem s17holds_3 (op xb : Int) (s : Bool) (nn d : ByteArray) (day : Int) (z : Int) (j : Nat) (cg co n cap : Nat) (hn : 1 ≤ n) (hn2 : n ≤ 1000) (w : World) (hc : w.cell? ⟨cg, co + (n - 1), none⟩ = some (.int .i64 day)) (hc3 : w.cell? ⟨cg, co + j, none⟩ = some (.int .i64 z)) (hj : (j : Int) < (n : Int) - 1) :
    Calls Tryz.prog 23 #[.agg #[.int .i64 op, .int .i64 (j : Int), .int .i64 xb, .bool s, .string nn, .string d], .slice (some ⟨cg, co, none⟩) n cap] w fun e w' => e = .returned (.bool (z == xb)) ∧ Below w.heap.size w w' := by
  obtain ⟨W0, hW0, HX, HW⟩ : ∃ W, w.alloc (.cells #[.int .i64 op, .int .i64 (j : Int), .int .i64 xb, .bool s, .string nn, .string d] 40) = W ∧ Hid (Blk W w.heap.size 40 #[.int .i64 op, .int .i64 (j : Int), .int .i64 xb, .bool s, .string nn, .string d]) ∧ Hid (Below w.heap.size w W) := ⟨_, rfl, Blk.new w _ _, (Below.refl _ w).alloc (Nat.le_refl _) _⟩
  have hc1 := old_cell hc (.cells #[.int .i64 op, .int .i64 (j : Int), .int .i64 xb, .bool s, .string nn, .string d] 40)
  rw [hW0] at hc1
  have hc2 := old_cell hc3 (.cells #[.int .i64 op, .int .i64 (j : Int), .int .i64 xb, .bool s, .string nn, .string d] 40)
  rw [hW0] at hc2
  clear hc3
  have x1 := HX.out.cell (i := 1) rfl
  have x2 := HX.out.cell (i := 2) rfl
  clear hc
  go_enter Tryz.func23, Tryz.ntmps23
  go_wp2
  go_quiet (fail)
  go_wp2
  go_ret
  exact ⟨by first | rfl | simp, by repeat (first | exact HW.out | refine below_drewN' ?_ _ | refine Below.drew ?_)⟩
set_option maxRecDepth 100000 in
set_option maxHeartbeats 1000000 in
theorem s17holds_4 (op xb : Int) (s : Bool) (nn d : ByteArray) (day : Int) (j : Nat) (cg co n cap : Nat) (hn : 1 ≤ n) (hn2 : n ≤ 1000) (w : World) (hc : w.cell? ⟨cg, co + (n - 1), none⟩ = some (.int .i64 day)) (hj : ¬ (j : Int) < (n : Int) - 1) :
    Calls Tryz.prog 23 #[.agg #[.int .i64 op, .int .i64 (j : Int), .int .i64 xb, .bool s, .string nn, .string d], .slice (some ⟨cg, co, none⟩) n cap] w fun e w' => e = .returned (.bool (false)) ∧ Below w.heap.size w w' := by
  obtain ⟨W0, hW0, HX, HW⟩ : ∃ W, w.alloc (.cells #[.int .i64 op, .int .i64 (j : Int), .int .i64 xb, .bool s, .string nn, .string d] 40) = W ∧ Hid (Blk W w.heap.size 40 #[.int .i64 op, .int .i64 (j : Int), .int .i64 xb, .bool s, .string nn, .string d]) ∧ Hid (Below w.heap.size w W) := ⟨_, rfl, Blk.new w _ _, (Below.refl _ w).alloc (Nat.le_refl _) _⟩
  have hc1 := old_cell hc (.cells #[.int .i64 op, .int .i64 (j : Int), .int .i64 xb, .bool s, .string nn, .string d] 40)
  rw [hW0] at hc1
  have x1 := HX.out.cell (i := 1) rfl
  have x2 := HX.out.cell (i := 2) rfl
  clear hc
  have hwn : IntKind.i64.wrap ((n : Int) - 1) = (n : Int) - 1 := Go.IntWalk.i64_in _ (by omega)
  have hdj : decide ((j : Int) < (n : Int) - 1) = false := decide_eq_false hj
  go_enter Tryz.func23, Tryz.ntmps23
  go_wp2
  go_region
  all_goals go_wp2
  go_ret
  exact ⟨by first | rfl | simp, by repeat (first | exact HW.out | refine below_drewN' ?_ _ | refine Below.drew ?_)⟩
theorem s17holds_any (x : Ins) (cs : List Int) (hne : cs ≠ []) (ha : -2 ≤ x.a) (hl : cs.length ≤ 1000) (v : Value) (w : World) (h : IntsIs w v cs) :
    Calls Tryz.prog 23 #[x.v, v] w fun e w' => e = .returned (.bool (holdsM cs x)) ∧ Below w.heap.size w w' := by
  rcases h with ⟨p, cap, rfl, rfl⟩ | ⟨g, o, cap, rfl, h2, h3, h4⟩
  · exact absurd rfl hne
  · have hlp := List.length_pos_iff.2 hne
    have hday := h4 (cs.length - 1) (by omega)
    have e1 : cs[cs.length - 1]'(by omega) = cs.getD (cs.length - 1) 0 := by simp [show cs.length - 1 < cs.length by omega]
    rw [e1] at hday
    obtain ⟨op, a, b, s, nn, d⟩ := x
    unfold holdsM
    dsimp only at *
    by_cases h1 : a = -1
    · subst h1
      rw [if_pos rfl]
      exact s17holds_1 _ _ _ _ _ _ _ _ _ _ hlp hl w hday
    · rw [if_neg h1]
      by_cases h2 : a = -2
      · subst h2
        rw [if_pos rfl]
        exact s17holds_2 _ _ _ _ _ _ _ _ _ _ hlp hl w hday
      · rw [if_neg h2]
        obtain ⟨j, rfl⟩ := Int.eq_ofNat_of_zero_le (show 0 ≤ a by omega)
        by_cases h5 : (j : Int) < (cs.length : Int) - 1
        · have hz := h4 j (by omega)
          have e2 : cs[j]'(by omega) = cs.getD j 0 := by simp [show j < cs.length by omega]
          rw [e2] at hz
          have hh := s17holds_3 op b s nn d _ (cs.getD j 0) j _ _ _ cap hlp hl w hday hz h5
          have e3 : (decide ((j : Int) < (cs.length : Int) - 1) && decide (cs.getD (j : Int).toNat 0 = b)) = (cs.getD j 0 == b) := by
            rw [decide_eq_true h5, Int.toNat_natCast, Bool.true_and]
            rfl
          rw [e3]
          exact hh
        · rw [decide_eq_false h5, Bool.false_and]
          exact s17holds_4 _ _ _ _ _ _ j _ _ _ _ hlp hl w hday h5
end Go.Proofs.YteggbpaljmopoaaGreat
/- backflushref17: Run: how its state lies; its early endings. -/
namespace Go.Proofs.YteggbpaljmopoaaGreat
open Go.RowKit BF

theorem rowU {w w' : World} {B z n : Nat} {T : TypeId} {v : Value} {xs : List Value} (h : w.ownsRow B T z v n xs) (hb : Below w.heap.size w w') : w'.ownsRow B T z v n xs := by
  obtain ⟨h0, h | ⟨g, cap, cur, rfl, h1, h2, h3⟩⟩ := h
  · exact ⟨h0, .inl h⟩
  · exact ⟨h0, .inr ⟨g, cap, cur, rfl, h1, by rw [hb.block g (Array.getElem?_eq_some_iff.1 h2).1]; exact h2, h3⟩⟩
def rvC (r : RV) : Array Value := #[.bool r.neg, .string r.n, .string r.d]
/-- how the state of a run lies -/
structure RS (w : World) (B bp : Nat) (am b : RV) (us : List UseV) (ws : List WorkV) (u k : Value) : Prop where
  amb : Blk w B 25 (rvC am)
  bat : Blk w bp 25 (rvC b)
  uses : w.ownsRow B 58 6 u us.length (us.flatMap useC)
  work : w.ownsRow B 60 2 k ws.length (ws.flatMap workC)
  apart : u.ownBlock = none ∨ u.ownBlock ≠ k.ownBlock
  ub : u.ownBlock ≠ some bp ∧ u.ownBlock ≠ some B
  kb : k.ownBlock ≠ some bp ∧ k.ownBlock ≠ some B
  low : B < bp
theorem RS.under {w w' : World} {B bp : Nat} {am b : RV} {us : List UseV} {ws : List WorkV} {u k : Value} (h : RS w B bp am b us ws u k) (hb : Below w.heap.size w w') : RS w' B bp am b us ws u k :=
  ⟨h.amb.under hb, h.bat.under hb, rowU h.uses hb, rowU h.work hb, h.apart, h.ub, h.kb, h.low⟩
theorem RS.alloc {w : World} {B bp : Nat} {am b : RV} {us : List UseV} {ws : List WorkV} {u k : Value} (h : RS w B bp am b us ws u k) (o : Obj) : RS (w.alloc o) B bp am b us ws u k :=
  h.under ((Below.refl _ w).alloc (Nat.le_refl _) o)
theorem grownBy_opt {w w' : World} {g : Nat} {v : Value} (hg : w.grownBy w' (some g)) (hv : v.ownBlock ≠ some g) {B z n : Nat} {T : TypeId} {xs : List Value} (h : w.ownsRow B T z v n xs) : w'.ownsRow B T z v n xs :=
  h.kept hg (.inr hv)
theorem RS.put1 {w : World} {B bp : Nat} {am b : RV} {us : List UseV} {ws : List WorkV} {u k : Value} (h : RS w B bp am b us ws u k) (q : RV) :
    RS (((w.setCell ⟨bp, 0, none⟩ (.bool q.neg)).setCell ⟨bp, 1, none⟩ (.string q.n)).setCell ⟨bp, 2, none⟩ (.string q.d)) B bp am q us ws u k := by
  have hg : w.grownBy (((w.setCell ⟨bp, 0, none⟩ (.bool q.neg)).setCell ⟨bp, 1, none⟩ (.string q.n)).setCell ⟨bp, 2, none⟩ (.string q.d)) (some bp) :=
    grownBy_trans (grownBy_trans (grownBy_set _ _ _ _) (grownBy_set _ _ _ _)) (grownBy_set _ _ _ _)
  have hne := h.low
  exact ⟨((h.amb.other _ (by omega)).other _ (by omega)).other _ (by omega), ((h.bat.set (i := 0) _).set (i := 1) _).set (i := 2) _, grownBy_opt hg h.ub.1 h.uses, grownBy_opt hg h.kb.1 h.work, h.apart, h.ub, h.kb, h.low⟩
theorem RS.addU {w w' : World} {B bp : Nat} {am b : RV} {us : List UseV} {ws : List WorkV} {u k v : Value} (h : RS w B bp am b us ws u k) (x : UseV) (ho : w'.ownsRow B 58 6 v (us.length + 1) (us.flatMap useC ++ useC x))
    (hg : w.grownBy w' u.ownBlock) (hat : v.ownBlock = u.ownBlock ∨ v.ownBlock = some w.heap.size) : RS w' B bp am b (us ++ [x]) ws v k := by
  have h1 := h.amb.lt
  have h2 := h.bat.lt
  have hv : ∀ p, p < w.heap.size → u.ownBlock ≠ some p → v.ownBlock ≠ some p := fun p hp hu he => by
    rcases hat with h3 | h3
    · exact hu (h3 ▸ he)
    · rw [h3] at he; injection he with he; omega
  have hk : k.ownBlock = none ∨ k.ownBlock ≠ u.ownBlock := rows_ne h.apart
  refine ⟨h.amb.kept hg (fun e => h.ub.2 e.symm), h.bat.kept hg (fun e => h.ub.1 e.symm), ?_, h.work.kept hg hk, ?_, ⟨hv _ h2 h.ub.1, hv _ h1 h.ub.2⟩, h.kb, h.low⟩
  · rw [List.length_append, List.flatMap_append]
    simpa using ho
  · rcases hat with h3 | h3
    · rw [h3]; exact h.apart
    · refine .inr fun he => ?_
      rw [h3] at he
      have := (h.work.lt _ he.symm).2
      omega
theorem RS.addW {w w' : World} {B bp : Nat} {am b : RV} {us : List UseV} {ws : List WorkV} {u k v : Value} (h : RS w B bp am b us ws u k) (x : WorkV) (ho : w'.ownsRow B 60 2 v (ws.length + 1) (ws.flatMap workC ++ workC x))
    (hg : w.grownBy w' k.ownBlock) (hat : v.ownBlock = k.ownBlock ∨ v.ownBlock = some w.heap.size) : RS w' B bp am b us (ws ++ [x]) u v := by
  have h1 := h.amb.lt
  have h2 := h.bat.lt
  have hv : ∀ p, p < w.heap.size → k.ownBlock ≠ some p → v.ownBlock ≠ some p := fun p hp hu he => by
    rcases hat with h3 | h3
    · exact hu (h3 ▸ he)
    · rw [h3] at he; injection he with he; omega
  have hk : u.ownBlock = none ∨ u.ownBlock ≠ k.ownBlock := h.apart
  refine ⟨h.amb.kept hg (fun e => h.kb.2 e.symm), h.bat.kept hg (fun e => h.kb.1 e.symm), h.uses.kept hg hk, ?_, ?_, h.ub, ⟨hv _ h2 h.kb.1, hv _ h1 h.kb.2⟩, h.low⟩
  · rw [List.length_append, List.flatMap_append]
    simpa using ho
  · rcases hat with h3 | h3
    · rw [h3]; exact h.apart
    · rcases hu : u.ownBlock with _ | g
      · exact .inl rfl
      · refine .inr fun he => ?_
        rw [h3] at he
        have := (h.uses.lt _ hu).2
        injection he with he
        omega
theorem rowsU {w : World} {B bp : Nat} {am b : RV} {us : List UseV} {ws : List WorkV} {u k : Value} (h : RS w B bp am b us ws u k) (q : Nat) (hq : u.ownBlock = some q) : B ≤ q := (h.uses.lt q hq).1
theorem rowsK {w : World} {B bp : Nat} {am b : RV} {us : List UseV} {ws : List WorkV} {u k : Value} (h : RS w B bp am b us ws u k) (q : Nat) (hq : k.ownBlock = some q) : B ≤ q := (h.work.lt q hq).1
/-- where a run begins -/
theorem RS.start {w : World} {B : Nat} {am b : RV} (ha : Blk w B 25 (rvC am)) : RS (((w.alloc (.cells #[] 58)).alloc (.cells #[] 60)).alloc (.cells (rvC b) 25)) B (w.heap.size + 2) am b [] [] (.slice (some ⟨w.heap.size, 0, none⟩) 0 0) (.slice (some ⟨w.heap.size + 1, 0, none⟩) 0 0) := by
  have hl := ha.lt
  have e1 : (w.alloc (.cells #[] 58)).heap.size = w.heap.size + 1 := by simp
  have e2 : ((w.alloc (.cells #[] 58)).alloc (.cells #[] 60)).heap.size = w.heap.size + 2 := by simp
  have hu : (w.alloc (.cells #[] 58)).ownsRow B 58 6 (.slice (some ⟨w.heap.size, 0, none⟩) 0 0) 0 [] := ⟨rfl, .inr ⟨w.heap.size, 0, #[], rfl, by omega, (MapKept.heap_alloc w _).1, Nat.le_refl _, by decide, rfl, rfl⟩⟩
  have hk : ((w.alloc (.cells #[] 58)).alloc (.cells #[] 60)).ownsRow B 60 2 (.slice (some ⟨w.heap.size + 1, 0, none⟩) 0 0) 0 [] := by
    have := (MapKept.heap_alloc (w.alloc (.cells #[] 58)) (.cells #[] 60)).1
    rw [e1] at this
    exact ⟨rfl, .inr ⟨w.heap.size + 1, 0, #[], rfl, by omega, this, Nat.le_refl _, by decide, rfl, rfl⟩⟩
  have hb := Blk.new ((w.alloc (.cells #[] 58)).alloc (.cells #[] 60)) 25 (rvC b)
  rw [e2] at hb
  refine ⟨((ha.alloc _).alloc _).alloc _, hb, rowU (rowU hu ((Below.refl _ _).alloc (Nat.le_refl _) _)) ((Below.refl _ _).alloc (Nat.le_refl _) _), rowU hk ((Below.refl _ _).alloc (Nat.le_refl _) _), ?_, ?_, ?_, by omega⟩
  · exact .inr (by simp [Value.ownBlock])
  · simp [Value.ownBlock]; omega
  · simp [Value.ownBlock]; omega
theorem next_ok {xs : List Ins} {cs : List Int} {am : RV} {s s' : MS} {R : Except Int (MS × Nat)} {f i : Nat} (hl : lastOk xs = true) (hv : allV xs = true) (ho : OkM xs s) (hd : s.done = false) (hi : i < xs.length) (he : s.at_ = i)
    (hR : runM xs cs am (f + 1) s = R) (hs : stepM cs am xs[i] { s with at_ := s.at_ + 1 } = .ok s') : runM xs cs am f s' = R ∧ OkM xs s' := by
  rw [runM_step f hd i hi he, hs] at hR
  exact ⟨hR, (step_ok hl hv ho hd i hi he hs).1⟩
theorem next_err {xs : List Ins} {cs : List Int} {am : RV} {s : MS} {R : Except Int (MS × Nat)} {f i : Nat} {e : Int} (hd : s.done = false) (hi : i < xs.length) (he : s.at_ = i)
    (hR : runM xs cs am (f + 1) s = R) (hs : stepM cs am xs[i] { s with at_ := s.at_ + 1 } = .error e) : R = .error e := by
  rw [runM_step f hd i hi he, hs] at hR
  exact hR.symm
def RErr (k : Int) (w : World) (e : Ending) (w' : World) : Prop := e = .returned (.tuple #[.slice none 0 0, .slice none 0 0, .int .i64 0, .int .i64 0, .int .i64 k]) ∧ Below w.heap.size w w'
set_option maxRecDepth 100000 in
set_option maxHeartbeats 2000000 in
theorem s17run_bad1 (cv sv : Value) (am : RV) (fuel k : Int) (hk : (k != 0) = true) (w : World)
    (HC : Hid (∀ w1, Below w.heap.size w w1 → Calls Tryz.prog 10 #[cv] w1 fun e w' => e = .returned (.int .i64 k) ∧ Below w1.heap.size w1 w')) :
    Calls Tryz.prog 8 #[cv, sv, .agg #[.bool am.neg, .string am.n, .string am.d], .int .i64 fuel] w (RErr k w) := by
  obtain ⟨W0, hW0, HA, HW⟩ := one_box w (rvC am)
  unfold rvC at hW0
  go_enter Tryz.func8, Tryz.ntmps8
  go_wp2_with (fail)
  refine (HC.out _ HW.out).mono ?_
  rintro e w1 ⟨rfl, hb⟩
  have HW1 := Lib.hid (HW.out.trans (hb.mono HW.out.size))
  clear hb
  go_wp2
  refine bodyPost_ret (results_tmp5 rfl _ _ _) rfl ?_
  exact ⟨rfl, HW1.out⟩
set_option maxRecDepth 100000 in
set_option maxHeartbeats 2000000 in
theorem s17run_bad2 (cv sv : Value) (am : RV) (fuel k : Int) (hk : (k != 0) = true) (w : World)
    (HC : Hid (∀ w1, Below w.heap.size w w1 → Calls Tryz.prog 10 #[cv] w1 fun e w' => e = .returned (.int .i64 0) ∧ Below w1.heap.size w1 w'))
    (HA2 : Hid (∀ w : World, Calls Tryz.prog 21 #[.agg #[.bool am.neg, .string am.n, .string am.d]] w fun e w' => e = .returned (.int .i64 k) ∧ Below w.heap.size w w')) :
    Calls Tryz.prog 8 #[cv, sv, .agg #[.bool am.neg, .string am.n, .string am.d], .int .i64 fuel] w (RErr k w) := by
  obtain ⟨W0, hW0, HA, HW⟩ := one_box w (rvC am)
  unfold rvC at hW0 HA
  go_enter Tryz.func8, Tryz.ntmps8
  go_wp2_with (fail)
  refine (HC.out _ HW.out).mono ?_
  rintro e w1 ⟨rfl, hb⟩
  have HW1 := Lib.hid (HW.out.trans (hb.mono HW.out.size))
  have HA1 := Lib.hid (HA.out.under hb)
  clear hb
  have c0 := HA1.out.cell (i := 0) rfl
  have c1 := HA1.out.cell (i := 1) rfl
  have c2 := HA1.out.cell (i := 2) rfl
  go_wp2_with (fail)
  refine (HA2.out _).mono ?_
  rintro e w2 ⟨rfl, hb⟩
  have HW2 := Lib.hid (HW1.out.trans (hb.mono HW1.out.size))
  clear hb
  go_wp2
  refine bodyPost_ret (results_tmp5 rfl _ _ _) rfl ?_
  exact ⟨rfl, HW2.out⟩
set_option maxRecDepth 100000 in
set_option maxHeartbeats 2000000 in
theorem s17run_bad3 (cv : Value) (pc : Option Addr) (n cap : Nat) (s : Bool) (an ad : ByteArray) (fuel : Int) (hbad : s = true ∨ s = false ∧ (n : Int) < 1 ∨ s = false ∧ ¬ (n : Int) < 1 ∧ fuel < 0) (w : World)
    (HC : Hid (∀ w1, Below w.heap.size w w1 → Calls Tryz.prog 10 #[cv] w1 fun e w' => e = .returned (.int .i64 0) ∧ Below w1.heap.size w1 w'))
    (HA2 : Hid (∀ w : World, Calls Tryz.prog 21 #[.agg #[.bool s, .string an, .string ad]] w fun e w' => e = .returned (.int .i64 0) ∧ Below w.heap.size w w')) :
    Calls Tryz.prog 8 #[cv, .slice pc n cap, .agg #[.bool s, .string an, .string ad], .int .i64 fuel] w (RErr 1 w) := by
  obtain ⟨W0, hW0, HA, HW⟩ := one_box w #[.bool s, .string an, .string ad]
  rcases hbad with rfl | ⟨rfl, h1⟩ | ⟨rfl, h1, h2⟩
  all_goals
    go_enter Tryz.func8, Tryz.ntmps8
    go_wp2_with (fail)
    refine (HC.out _ HW.out).mono ?_
    rintro e w1 ⟨rfl, hb⟩
    have HW1 := Lib.hid (HW.out.trans (hb.mono HW.out.size))
    have HA1 := Lib.hid (HA.out.under hb)
    clear hb
    have c0 := HA1.out.cell (i := 0) rfl
    have c1 := HA1.out.cell (i := 1) rfl
    have c2 := HA1.out.cell (i := 2) rfl
    go_wp2_with (fail)
    refine (HA2.out _).mono ?_
    rintro e w2 ⟨rfl, hb⟩
    have HW2 := Lib.hid (HW1.out.trans (hb.mono HW1.out.size))
    have HA2' := Lib.hid (HA1.out.under hb)
    clear hb
    have d0 := HA2'.out.cell (i := 0) rfl
    go_wp2
    refine bodyPost_ret (results_tmp5 rfl _ _ _) rfl ?_
    exact ⟨rfl, HW2.out⟩
end Go.Proofs.YteggbpaljmopoaaGreat
