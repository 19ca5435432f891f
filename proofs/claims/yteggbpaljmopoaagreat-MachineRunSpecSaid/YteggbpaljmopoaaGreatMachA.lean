/- The package machine: what its checks return. Conditions: those that each theorem states. -/
import Derived.Test.YteggbpaljmopoaaGreatRatsD
set_option linter.unusedVariables false
set_option linter.unusedSimpArgs false
/- machine: instructions; in, positive, valid. -/
namespace Go.Proofs.YteggbpaljmopoaaGreat
open Go.RowKit BF

structure Ins where
  op : Int
  a : Int
  b : Int
  r : RV
def Ins.v (x : Ins) : Value := .agg #[.int .i64 x.op, .int .i64 x.a, .int .i64 x.b, .bool x.r.neg, .string x.r.n, .string x.r.d]
def inB (n l m : Int) : Bool := decide (l ≤ n) && decide (n ≤ m)
def RV.pos (r : RV) : Bool := r.ok && !r.neg
def validI (x : Ins) (k : Int) : Bool :=
  if x.op = 1 then inB x.a (-2) 5 && inB x.b 0 1024 && decide (2 ≤ k)
  else if x.op = 2 then decide (0 ≤ x.a) && decide (x.a < k)
  else if x.op = 3 then x.r.pos && !x.r.n.toList.isEmpty && inB x.a 0 63 && inB x.b 0 15
  else if x.op = 4 then x.r.pos && inB x.a 0 31 && inB x.b 0 1
  else if x.op = 5 then x.r.pos && inB x.a 0 31 && decide (x.b = 0)
  else if x.op = 6 then inB x.a 0 15 && inB x.b 0 15
  else decide (x.op = 7) || decide (x.op = 8)

set_option maxRecDepth 100000 in
theorem in_any (n l m : Int) (w : World) : Calls Tryz.prog 30 #[.int .i64 n, .int .i64 l, .int .i64 m] w fun e w' => e = .returned (.bool (inB n l m)) ∧ w' = w := by
  by_cases h1 : l ≤ n
  · by_cases h2 : n ≤ m
    · have hf : inB n l m = true := by simp [inB, h1, h2]
      go_enter Tryz.func30, Tryz.ntmps30
      go_wp2
      go_ret
      exact ⟨by first | rfl | (rw [hf]; rfl), rfl⟩
    · have hf : inB n l m = false := by simp [inB, h1, h2]
      go_enter Tryz.func30, Tryz.ntmps30
      go_wp2
      go_ret
      exact ⟨by first | rfl | (rw [hf]; rfl), rfl⟩
  · have hf : inB n l m = false := by simp [inB, h1]
    go_enter Tryz.func30, Tryz.ntmps30
    go_wp2
    go_ret
    exact ⟨by first | rfl | (rw [hf]; rfl), rfl⟩

theorem RCheck_r (r : RV) (hr : r.fits) (w : World) : Calls Tryz.prog 16 #[r.v] w fun e w' => e = .returned (.int .i64 (if r.ok then 0 else 70)) ∧ Below w.heap.size w w' := RCheck_any r.neg r.n r.d hr.1 hr.2 w

set_option maxRecDepth 100000 in
set_option maxHeartbeats 1000000 in
theorem positive_any (r : RV) (hr : r.fits) (w : World) : Calls Tryz.prog 50 #[r.v] w fun e w' => e = .returned (.bool r.pos) ∧ Below w.heap.size w w' := by
  have HC := Lib.hid (fun w => RCheck_r r hr w)
  unfold RV.pos
  clear hr
  generalize r.ok = ok at *
  obtain ⟨s, n, d⟩ := r
  unfold RV.v rV at *
  dsimp only at *
  have HA : Hid (Blk (w.alloc (.cells #[.bool s, .string n, .string d] 25)) w.heap.size 25 #[.bool s, .string n, .string d]) := Blk.new w _ _
  have HW : Hid (Below w.heap.size w (w.alloc (.cells #[.bool s, .string n, .string d] 25))) := (Below.refl _ w).alloc (Nat.le_refl _) _
  have c0 := HA.out.cell (i := 0) rfl
  have c1 := HA.out.cell (i := 1) rfl
  have c2 := HA.out.cell (i := 2) rfl
  go_enter Tryz.func50, Tryz.ntmps50
  go_wp2_with (fail)
  refine (HC.out _).mono ?_
  rintro e w1 ⟨rfl, hb⟩
  have HA1 := Lib.hid (HA.out.under hb)
  have HW1 := Lib.hid (HW.out.trans (hb.mono HW.out.size))
  clear hb c0 c1 c2
  have c0 := HA1.out.cell (i := 0) rfl
  cases ok with
  | false =>
    go_wp2
    go_ret
    exact ⟨rfl, HW1.out⟩
  | true =>
    go_wp2
    go_ret
    exact ⟨rfl, HW1.out⟩
end Go.Proofs.YteggbpaljmopoaaGreat
/- machine.valid. PRINTED BY wip/gen_valid.py -/
namespace Go.Proofs.YteggbpaljmopoaaGreat
open Go.RowKit BF

set_option maxRecDepth 100000 in
set_option maxHeartbeats 1000000 in
theorem valid1 ( a b : Int) (s : Bool) (n d : ByteArray) (k : Int) (i j : Bool) (w : World)
    (H1 : Hid (∀ w : World, Calls Tryz.prog 30 #[.int .i64 a, .int .i64 (-2), .int .i64 5] w fun e w' => e = .returned (.bool i) ∧ w' = w))
    (H2 : Hid (∀ w : World, Calls Tryz.prog 30 #[.int .i64 b, .int .i64 0, .int .i64 1024] w fun e w' => e = .returned (.bool j) ∧ w' = w)) :
    Calls Tryz.prog 27 #[.agg #[.int .i64 1, .int .i64 a, .int .i64 b, .bool s, .string n, .string d], .int .i64 k] w fun e w' => e = .returned (.bool (i && j && decide (2 ≤ k))) ∧ Below w.heap.size w w' := by
  have HA : Hid (Blk (w.alloc (.cells #[.int .i64 1, .int .i64 a, .int .i64 b, .bool s, .string n, .string d] 40)) w.heap.size 40 #[.int .i64 1, .int .i64 a, .int .i64 b, .bool s, .string n, .string d]) := Blk.new w _ _
  have HW : Hid (Below w.heap.size w (w.alloc (.cells #[.int .i64 1, .int .i64 a, .int .i64 b, .bool s, .string n, .string d] 40))) := (Below.refl _ w).alloc (Nat.le_refl _) _
  have c0 := HA.out.cell (i := 0) rfl
  have c1 := HA.out.cell (i := 1) rfl
  have c2 := HA.out.cell (i := 2) rfl
  have c3 := HA.out.cell (i := 3) rfl
  have c4 := HA.out.cell (i := 4) rfl
  have c5 := HA.out.cell (i := 5) rfl
  go_enter Tryz.func27, Tryz.ntmps27
  go_wp2_with (fail)
  refine (H1.out _).mono ?_
  rintro e w1 ⟨rfl, rfl⟩
  cases i with
  | false =>
    go_wp2
    go_ret
    exact ⟨by first | rfl | (simp [*]; done) | (simp [*]; omega), HW.out⟩
  | true =>
    go_wp2_with (fail)
    refine (H2.out _).mono ?_
    rintro e w1 ⟨rfl, rfl⟩
    cases j with
    | false =>
      go_wp2
      go_ret
      exact ⟨by first | rfl | (simp [*]; done) | (simp [*]; omega), HW.out⟩
    | true =>
      by_cases h : 2 ≤ k
      · go_wp2
        go_ret
        exact ⟨by first | rfl | (simp [*]; done) | (simp [*]; omega), HW.out⟩
      · go_wp2
        go_ret
        exact ⟨by first | rfl | (simp [*]; done) | (simp [*]; omega), HW.out⟩

set_option maxRecDepth 100000 in
set_option maxHeartbeats 1000000 in
theorem valid2 ( a b : Int) (s : Bool) (n d : ByteArray) (k : Int)  (w : World) :
    Calls Tryz.prog 27 #[.agg #[.int .i64 2, .int .i64 a, .int .i64 b, .bool s, .string n, .string d], .int .i64 k] w fun e w' => e = .returned (.bool (decide (0 ≤ a) && decide (a < k))) ∧ Below w.heap.size w w' := by
  have HA : Hid (Blk (w.alloc (.cells #[.int .i64 2, .int .i64 a, .int .i64 b, .bool s, .string n, .string d] 40)) w.heap.size 40 #[.int .i64 2, .int .i64 a, .int .i64 b, .bool s, .string n, .string d]) := Blk.new w _ _
  have HW : Hid (Below w.heap.size w (w.alloc (.cells #[.int .i64 2, .int .i64 a, .int .i64 b, .bool s, .string n, .string d] 40))) := (Below.refl _ w).alloc (Nat.le_refl _) _
  have c0 := HA.out.cell (i := 0) rfl
  have c1 := HA.out.cell (i := 1) rfl
  have c2 := HA.out.cell (i := 2) rfl
  have c3 := HA.out.cell (i := 3) rfl
  have c4 := HA.out.cell (i := 4) rfl
  have c5 := HA.out.cell (i := 5) rfl
  go_enter Tryz.func27, Tryz.ntmps27
  by_cases h1 : 0 ≤ a
  · by_cases h2 : a < k
    · go_wp2
      go_ret
      exact ⟨by first | rfl | (simp [*]; done) | (simp [*]; omega), HW.out⟩
    · go_wp2
      go_ret
      exact ⟨by first | rfl | (simp [*]; done) | (simp [*]; omega), HW.out⟩
  · go_wp2
    go_ret
    exact ⟨by first | rfl | (simp [*]; done) | (simp [*]; omega), HW.out⟩

set_option maxRecDepth 100000 in
set_option maxHeartbeats 1000000 in
theorem valid3 ( a b : Int) (s : Bool) (n d : ByteArray) (k : Int) (p i j : Bool) (w : World)
    (HP : Hid (∀ w : World, Calls Tryz.prog 50 #[.agg #[.bool s, .string n, .string d]] w fun e w' => e = .returned (.bool p) ∧ Below w.heap.size w w'))
    (H1 : Hid (∀ w : World, Calls Tryz.prog 30 #[.int .i64 a, .int .i64 0, .int .i64 63] w fun e w' => e = .returned (.bool i) ∧ w' = w))
    (H2 : Hid (∀ w : World, Calls Tryz.prog 30 #[.int .i64 b, .int .i64 0, .int .i64 15] w fun e w' => e = .returned (.bool j) ∧ w' = w)) :
    Calls Tryz.prog 27 #[.agg #[.int .i64 3, .int .i64 a, .int .i64 b, .bool s, .string n, .string d], .int .i64 k] w fun e w' => e = .returned (.bool (p && !n.toList.isEmpty && i && j)) ∧ Below w.heap.size w w' := by
  have HA : Hid (Blk (w.alloc (.cells #[.int .i64 3, .int .i64 a, .int .i64 b, .bool s, .string n, .string d] 40)) w.heap.size 40 #[.int .i64 3, .int .i64 a, .int .i64 b, .bool s, .string n, .string d]) := Blk.new w _ _
  have HW : Hid (Below w.heap.size w (w.alloc (.cells #[.int .i64 3, .int .i64 a, .int .i64 b, .bool s, .string n, .string d] 40))) := (Below.refl _ w).alloc (Nat.le_refl _) _
  have c0 := HA.out.cell (i := 0) rfl
  have c1 := HA.out.cell (i := 1) rfl
  have c2 := HA.out.cell (i := 2) rfl
  have c3 := HA.out.cell (i := 3) rfl
  have c4 := HA.out.cell (i := 4) rfl
  have c5 := HA.out.cell (i := 5) rfl
  go_enter Tryz.func27, Tryz.ntmps27
  go_wp2_with (fail)
  refine (HP.out _).mono ?_
  rintro e w1 ⟨rfl, hb⟩
  have HA1 := Lib.hid (HA.out.under hb)
  have HW1 := Lib.hid (HW.out.trans (hb.mono HW.out.size))
  clear hb c0 c1 c2 c3 c4 c5 HA HW
  rename Hid (Blk w1 _ _ _) => HA
  rename Hid (Below _ _ w1) => HW
  have c0 := HA.out.cell (i := 0) rfl
  have c1 := HA.out.cell (i := 1) rfl
  have c2 := HA.out.cell (i := 2) rfl
  have c3 := HA.out.cell (i := 3) rfl
  have c4 := HA.out.cell (i := 4) rfl
  have c5 := HA.out.cell (i := 5) rfl
  cases p with
  | false =>
    go_wp2
    go_ret
    exact ⟨by first | rfl | (simp [*]; done) | (simp [*]; omega), HW.out⟩
  | true =>
    obtain ⟨z1, z2⟩ | ⟨z1, z2⟩ : (n.toList.isEmpty = true ∧ n.toList = []) ∨ (n.toList.isEmpty = false ∧ ¬ n.toList = []) := by
      by_cases h : n.toList = []
      · exact .inl ⟨by simp [h], h⟩
      · exact .inr ⟨by simpa using h, h⟩
    · go_wp2
      go_ret
      exact ⟨by first | rfl | (simp [*]; done) | (simp [*]; omega), HW.out⟩
    · go_wp2_with (fail)
      refine (H1.out _).mono ?_
      rintro e w1 ⟨rfl, rfl⟩
      cases i with
      | false =>
        go_wp2
        go_ret
        exact ⟨by first | rfl | (simp [*]; done) | (simp [*]; omega), HW.out⟩
      | true =>
        go_wp2_with (fail)
        refine (H2.out _).mono ?_
        rintro e w1 ⟨rfl, rfl⟩
        cases j with
        | false =>
          go_wp2
          go_ret
          exact ⟨by first | rfl | (simp [*]; done) | (simp [*]; omega), HW.out⟩
        | true =>
          go_wp2
          go_ret
          exact ⟨by first | rfl | (simp [*]; done) | (simp [*]; omega), HW.out⟩

set_option maxRecDepth 100000 in
set_option maxHeartbeats 1000000 in
theorem valid4 ( a b : Int) (s : Bool) (n d : ByteArray) (k : Int) (p i j : Bool) (w : World)
    (HP : Hid (∀ w : World, Calls Tryz.prog 50 #[.agg #[.bool s, .string n, .string d]] w fun e w' => e = .returned (.bool p) ∧ Below w.heap.size w w'))
    (H1 : Hid (∀ w : World, Calls Tryz.prog 30 #[.int .i64 a, .int .i64 0, .int .i64 31] w fun e w' => e = .returned (.bool i) ∧ w' = w))
    (H2 : Hid (∀ w : World, Calls Tryz.prog 30 #[.int .i64 b, .int .i64 0, .int .i64 1] w fun e w' => e = .returned (.bool j) ∧ w' = w)) :
    Calls Tryz.prog 27 #[.agg #[.int .i64 4, .int .i64 a, .int .i64 b, .bool s, .string n, .string d], .int .i64 k] w fun e w' => e = .returned (.bool (p && i && j)) ∧ Below w.heap.size w w' := by
  have HA : Hid (Blk (w.alloc (.cells #[.int .i64 4, .int .i64 a, .int .i64 b, .bool s, .string n, .string d] 40)) w.heap.size 40 #[.int .i64 4, .int .i64 a, .int .i64 b, .bool s, .string n, .string d]) := Blk.new w _ _
  have HW : Hid (Below w.heap.size w (w.alloc (.cells #[.int .i64 4, .int .i64 a, .int .i64 b, .bool s, .string n, .string d] 40))) := (Below.refl _ w).alloc (Nat.le_refl _) _
  have c0 := HA.out.cell (i := 0) rfl
  have c1 := HA.out.cell (i := 1) rfl
  have c2 := HA.out.cell (i := 2) rfl
  have c3 := HA.out.cell (i := 3) rfl
  have c4 := HA.out.cell (i := 4) rfl
  have c5 := HA.out.cell (i := 5) rfl
  go_enter Tryz.func27, Tryz.ntmps27
  go_wp2_with (fail)
  refine (HP.out _).mono ?_
  rintro e w1 ⟨rfl, hb⟩
  have HA1 := Lib.hid (HA.out.under hb)
  have HW1 := Lib.hid (HW.out.trans (hb.mono HW.out.size))
  clear hb c0 c1 c2 c3 c4 c5 HA HW
  rename Hid (Blk w1 _ _ _) => HA
  rename Hid (Below _ _ w1) => HW
  have c0 := HA.out.cell (i := 0) rfl
  have c1 := HA.out.cell (i := 1) rfl
  have c2 := HA.out.cell (i := 2) rfl
  have c3 := HA.out.cell (i := 3) rfl
  have c4 := HA.out.cell (i := 4) rfl
  have c5 := HA.out.cell (i := 5) rfl
  cases p with
  | false =>
    go_wp2
    go_ret
    exact ⟨by first | rfl | (simp [*]; done) | (simp [*]; omega), HW.out⟩
  | true =>
    go_wp2_with (fail)
    refine (H1.out _).mono ?_
    rintro e w1 ⟨rfl, rfl⟩
    cases i with
    | false =>
      go_wp2
      go_ret
      exact ⟨by first | rfl | (simp [*]; done) | (simp [*]; omega), HW.out⟩
    | true =>
      go_wp2_with (fail)
      refine (H2.out _).mono ?_
      rintro e w1 ⟨rfl, rfl⟩
      cases j with
      | false =>
        go_wp2
        go_ret
        exact ⟨by first | rfl | (simp [*]; done) | (simp [*]; omega), HW.out⟩
      | true =>
        go_wp2
        go_ret
        exact ⟨by first | rfl | (simp [*]; done) | (simp [*]; omega), HW.out⟩

set_option maxRecDepth 100000 in
set_option maxHeartbeats 1000000 in
theorem valid5 ( a b : Int) (s : Bool) (n d : ByteArray) (k : Int) (p i : Bool) (w : World)
    (HP : Hid (∀ w : World, Calls Tryz.prog 50 #[.agg #[.bool s, .string n, .string d]] w fun e w' => e = .returned (.bool p) ∧ Below w.heap.size w w'))
    (H1 : Hid (∀ w : World, Calls Tryz.prog 30 #[.int .i64 a, .int .i64 0, .int .i64 31] w fun e w' => e = .returned (.bool i) ∧ w' = w)) :
    Calls Tryz.prog 27 #[.agg #[.int .i64 5, .int .i64 a, .int .i64 b, .bool s, .string n, .string d], .int .i64 k] w fun e w' => e = .returned (.bool (p && i && decide (b = 0))) ∧ Below w.heap.size w w' := by
  have HA : Hid (Blk (w.alloc (.cells #[.int .i64 5, .int .i64 a, .int .i64 b, .bool s, .string n, .string d] 40)) w.heap.size 40 #[.int .i64 5, .int .i64 a, .int .i64 b, .bool s, .string n, .string d]) := Blk.new w _ _
  have HW : Hid (Below w.heap.size w (w.alloc (.cells #[.int .i64 5, .int .i64 a, .int .i64 b, .bool s, .string n, .string d] 40))) := (Below.refl _ w).alloc (Nat.le_refl _) _
  have c0 := HA.out.cell (i := 0) rfl
  have c1 := HA.out.cell (i := 1) rfl
  have c2 := HA.out.cell (i := 2) rfl
  have c3 := HA.out.cell (i := 3) rfl
  have c4 := HA.out.cell (i := 4) rfl
  have c5 := HA.out.cell (i := 5) rfl
  go_enter Tryz.func27, Tryz.ntmps27
  go_wp2_with (fail)
  refine (HP.out _).mono ?_
  rintro e w1 ⟨rfl, hb⟩
  have HA1 := Lib.hid (HA.out.under hb)
  have HW1 := Lib.hid (HW.out.trans (hb.mono HW.out.size))
  clear hb c0 c1 c2 c3 c4 c5 HA HW
  rename Hid (Blk w1 _ _ _) => HA
  rename Hid (Below _ _ w1) => HW
  have c0 := HA.out.cell (i := 0) rfl
  have c1 := HA.out.cell (i := 1) rfl
  have c2 := HA.out.cell (i := 2) rfl
  have c3 := HA.out.cell (i := 3) rfl
  have c4 := HA.out.cell (i := 4) rfl
  have c5 := HA.out.cell (i := 5) rfl
  cases p with
  | false =>
    go_wp2
    go_ret
    exact ⟨by first | rfl | (simp [*]; done) | (simp [*]; omega), HW.out⟩
  | true =>
    go_wp2_with (fail)
    refine (H1.out _).mono ?_
    rintro e w1 ⟨rfl, rfl⟩
    cases i with
    | false =>
      go_wp2
      go_ret
      exact ⟨by first | rfl | (simp [*]; done) | (simp [*]; omega), HW.out⟩
    | true =>
      by_cases h : b = 0
      · go_wp2
        go_ret
        exact ⟨by first | rfl | (simp [*]; done) | (simp [*]; omega), HW.out⟩
      · go_wp2
        go_ret
        exact ⟨by first | rfl | (simp [*]; done) | (simp [*]; omega), HW.out⟩

set_option maxRecDepth 100000 in
set_option maxHeartbeats 1000000 in
theorem valid6 ( a b : Int) (s : Bool) (n d : ByteArray) (k : Int) (i j : Bool) (w : World)
    (H1 : Hid (∀ w : World, Calls Tryz.prog 30 #[.int .i64 a, .int .i64 0, .int .i64 15] w fun e w' => e = .returned (.bool i) ∧ w' = w))
    (H2 : Hid (∀ w : World, Calls Tryz.prog 30 #[.int .i64 b, .int .i64 0, .int .i64 15] w fun e w' => e = .returned (.bool j) ∧ w' = w)) :
    Calls Tryz.prog 27 #[.agg #[.int .i64 6, .int .i64 a, .int .i64 b, .bool s, .string n, .string d], .int .i64 k] w fun e w' => e = .returned (.bool (i && j)) ∧ Below w.heap.size w w' := by
  have HA : Hid (Blk (w.alloc (.cells #[.int .i64 6, .int .i64 a, .int .i64 b, .bool s, .string n, .string d] 40)) w.heap.size 40 #[.int .i64 6, .int .i64 a, .int .i64 b, .bool s, .string n, .string d]) := Blk.new w _ _
  have HW : Hid (Below w.heap.size w (w.alloc (.cells #[.int .i64 6, .int .i64 a, .int .i64 b, .bool s, .string n, .string d] 40))) := (Below.refl _ w).alloc (Nat.le_refl _) _
  have c0 := HA.out.cell (i := 0) rfl
  have c1 := HA.out.cell (i := 1) rfl
  have c2 := HA.out.cell (i := 2) rfl
  have c3 := HA.out.cell (i := 3) rfl
  have c4 := HA.out.cell (i := 4) rfl
  have c5 := HA.out.cell (i := 5) rfl
  go_enter Tryz.func27, Tryz.ntmps27
  go_wp2_with (fail)
  refine (H1.out _).mono ?_
  rintro e w1 ⟨rfl, rfl⟩
  cases i with
  | false =>
    go_wp2
    go_ret
    exact ⟨by first | rfl | (simp [*]; done) | (simp [*]; omega), HW.out⟩
  | true =>
    go_wp2_with (fail)
    refine (H2.out _).mono ?_
    rintro e w1 ⟨rfl, rfl⟩
    cases j with
    | false =>
      go_wp2
      go_ret
      exact ⟨by first | rfl | (simp [*]; done) | (simp [*]; omega), HW.out⟩
    | true =>
      go_wp2
      go_ret
      exact ⟨by first | rfl | (simp [*]; done) | (simp [*]; omega), HW.out⟩

set_option maxRecDepth 100000 in
set_option maxHeartbeats 1000000 in
theorem valid7 ( a b : Int) (s : Bool) (n d : ByteArray) (k : Int)  (w : World) :
    Calls Tryz.prog 27 #[.agg #[.int .i64 7, .int .i64 a, .int .i64 b, .bool s, .string n, .string d], .int .i64 k] w fun e w' => e = .returned (.bool (true)) ∧ Below w.heap.size w w' := by
  have HA : Hid (Blk (w.alloc (.cells #[.int .i64 7, .int .i64 a, .int .i64 b, .bool s, .string n, .string d] 40)) w.heap.size 40 #[.int .i64 7, .int .i64 a, .int .i64 b, .bool s, .string n, .string d]) := Blk.new w _ _
  have HW : Hid (Below w.heap.size w (w.alloc (.cells #[.int .i64 7, .int .i64 a, .int .i64 b, .bool s, .string n, .string d] 40))) := (Below.refl _ w).alloc (Nat.le_refl _) _
  have c0 := HA.out.cell (i := 0) rfl
  have c1 := HA.out.cell (i := 1) rfl
  have c2 := HA.out.cell (i := 2) rfl
  have c3 := HA.out.cell (i := 3) rfl
  have c4 := HA.out.cell (i := 4) rfl
  have c5 := HA.out.cell (i := 5) rfl
  go_enter Tryz.func27, Tryz.ntmps27
  go_wp2
  go_ret
  exact ⟨by first | rfl | (simp [*]; done) | (simp [*]; omega), HW.out⟩

set_option maxRecDepth 100000 in
set_option maxHeartbeats 1000000 in
theorem valid8 ( a b : Int) (s : Bool) (n d : ByteArray) (k : Int)  (w : World) :
    Calls Tryz.prog 27 #[.agg #[.int .i64 8, .int .i64 a, .int .i64 b, .bool s, .string n, .string d], .int .i64 k] w fun e w' => e = .returned (.bool (true)) ∧ Below w.heap.size w w' := by
  have HA : Hid (Blk (w.alloc (.cells #[.int .i64 8, .int .i64 a, .int .i64 b, .bool s, .string n, .string d] 40)) w.heap.size 40 #[.int .i64 8, .int .i64 a, .int .i64 b, .bool s, .string n, .string d]) := Blk.new w _ _
  have HW : Hid (Below w.heap.size w (w.alloc (.cells #[.int .i64 8, .int .i64 a, .int .i64 b, .bool s, .string n, .string d] 40))) := (Below.refl _ w).alloc (Nat.le_refl _) _
  have c0 := HA.out.cell (i := 0) rfl
  have c1 := HA.out.cell (i := 1) rfl
  have c2 := HA.out.cell (i := 2) rfl
  have c3 := HA.out.cell (i := 3) rfl
  have c4 := HA.out.cell (i := 4) rfl
  have c5 := HA.out.cell (i := 5) rfl
  go_enter Tryz.func27, Tryz.ntmps27
  go_wp2
  go_ret
  exact ⟨by first | rfl | (simp [*]; done) | (simp [*]; omega), HW.out⟩

set_option maxRecDepth 100000 in
set_option maxHeartbeats 1000000 in
theorem valid9 (op a b : Int) (s : Bool) (n d : ByteArray) (k : Int) (h1 : (op == 1) = false) (h2 : (op == 2) = false) (h3 : (op == 3) = false) (h4 : (op == 4) = false) (h5 : (op == 5) = false) (h6 : (op == 6) = false) (h7 : (op == 7) = false) (h8 : (op == 8) = false) (w : World) :
    Calls Tryz.prog 27 #[.agg #[.int .i64 op, .int .i64 a, .int .i64 b, .bool s, .string n, .string d], .int .i64 k] w fun e w' => e = .returned (.bool (false)) ∧ Below w.heap.size w w' := by
  have HA : Hid (Blk (w.alloc (.cells #[.int .i64 op, .int .i64 a, .int .i64 b, .bool s, .string n, .string d] 40)) w.heap.size 40 #[.int .i64 op, .int .i64 a, .int .i64 b, .bool s, .string n, .string d]) := Blk.new w _ _
  have HW : Hid (Below w.heap.size w (w.alloc (.cells #[.int .i64 op, .int .i64 a, .int .i64 b, .bool s, .string n, .string d] 40))) := (Below.refl _ w).alloc (Nat.le_refl _) _
  have c0 := HA.out.cell (i := 0) rfl
  have c1 := HA.out.cell (i := 1) rfl
  have c2 := HA.out.cell (i := 2) rfl
  have c3 := HA.out.cell (i := 3) rfl
  have c4 := HA.out.cell (i := 4) rfl
  have c5 := HA.out.cell (i := 5) rfl
  go_enter Tryz.func27, Tryz.ntmps27
  go_wp2
  go_ret
  exact ⟨by first | rfl | (simp [*]; done) | (simp [*]; omega), HW.out⟩

theorem mvalid_any (x : Ins) (hx : x.r.fits) (k : Int) (w : World) : Calls Tryz.prog 27 #[x.v, .int .i64 k] w fun e w' => e = .returned (.bool (validI x k)) ∧ Below w.heap.size w w' := by
  obtain ⟨op, a, b, r⟩ := x
  obtain ⟨s, n, d⟩ := r
  have HP := fun w => positive_any ⟨s, n, d⟩ hx w
  unfold validI
  dsimp only
  by_cases h1 : op = 1
  · subst h1; exact valid1 _ _ _ _ _ _ _ _ _ (fun w => in_any _ _ _ w) (fun w => in_any _ _ _ w)
  by_cases h2 : op = 2
  · subst h2; exact valid2 _ _ _ _ _ _ _
  by_cases h3 : op = 3
  · subst h3; exact valid3 _ _ _ _ _ _ _ _ _ _ HP (fun w => in_any _ _ _ w) (fun w => in_any _ _ _ w)
  by_cases h4 : op = 4
  · subst h4; exact valid4 _ _ _ _ _ _ _ _ _ _ HP (fun w => in_any _ _ _ w) (fun w => in_any _ _ _ w)
  by_cases h5 : op = 5
  · subst h5; exact valid5 _ _ _ _ _ _ _ _ _ HP (fun w => in_any _ _ _ w)
  by_cases h6 : op = 6
  · subst h6; exact valid6 _ _ _ _ _ _ _ _ _ (fun w => in_any _ _ _ w) (fun w => in_any _ _ _ w)
  by_cases h7 : op = 7
  · subst h7; exact valid7 _ _ _ _ _ _ _
  by_cases h8 : op = 8
  · subst h8; exact valid8 _ _ _ _ _ _ _
  simp only [if_neg h1, if_neg h2, if_neg h3, if_neg h4, if_neg h5, if_neg h6, decide_eq_false h7, decide_eq_false h8, Bool.or_false]
  exact valid9 _ _ _ _ _ _ _ (by simpa using h1) (by simpa using h2) (by simpa using h3) (by simpa using h4) (by simpa using h5) (by simpa using h6) (by simpa using h7) (by simpa using h8) _
end Go.Proofs.YteggbpaljmopoaaGreat
/- machine.Check. -/
namespace Go.Proofs.YteggbpaljmopoaaGreat
open Go.RowKit BF

def InsAt (w : World) (g o : Nat) (x : Ins) : Prop :=
  w.cell? ⟨g, o, none⟩ = some (.int .i64 x.op) ∧ w.cell? ⟨g, o + 1, none⟩ = some (.int .i64 x.a) ∧ w.cell? ⟨g, o + 2, none⟩ = some (.int .i64 x.b) ∧
  w.cell? ⟨g, o + 3, none⟩ = some (.bool x.r.neg) ∧ w.cell? ⟨g, o + 4, none⟩ = some (.string x.r.n) ∧ w.cell? ⟨g, o + 5, none⟩ = some (.string x.r.d)
def CodeAt (w : World) (g o : Nat) (xs : List Ins) : Prop := g < w.heap.size ∧ ∀ j, (h : j < xs.length) → InsAt w g (o + j * 6) xs[j]
def allV : List Ins → Bool
  | [] => true
  | x :: t => validI x t.length && allV t
def lastOk (xs : List Ins) : Bool := match xs.getLast? with
  | some x => decide (x.op = 7) || decide (x.op = 8)
  | none => false
def checkM (xs : List Ins) : Int := if (lastOk xs && allV xs) = true then 0 else 171

theorem InsAt.below {w w' : World} {g o : Nat} {x : Ins} (h : InsAt w g o x) {B : Nat} (hb : Below B w w') (hg : g < B) : InsAt w' g o x := by
  unfold InsAt at *
  simp only [hb.cell (p := ⟨g, _, none⟩) hg]
  exact h
theorem CodeAt.below {w w' : World} {g o : Nat} {xs : List Ins} (h : CodeAt w g o xs) {B : Nat} (hb : Below B w w') (hg : g < B) : CodeAt w' g o xs :=
  ⟨Nat.lt_of_lt_of_le h.1 hb.size, fun j hj => (h.2 j hj).below hb hg⟩

theorem lastOk_get (xs : List Ins) (h : xs ≠ []) : lastOk xs = (decide ((xs[xs.length - 1]'(by have := List.length_pos_iff.2 h; omega)).op = 7) || decide ((xs[xs.length - 1]'(by have := List.length_pos_iff.2 h; omega)).op = 8)) := by
  unfold lastOk
  rw [List.getLast?_eq_getElem?, List.getElem?_eq_getElem (by have := List.length_pos_iff.2 h; omega)]

theorem checkM_last (xs : List Ins) (h : lastOk xs = false) : checkM xs = 171 := by unfold checkM; rw [h]; rfl
theorem allV_step (xs : List Ins) (k : Nat) (h : k < xs.length) (hv : allV xs = allV (xs.drop k)) : (validI xs[k] ((xs.length - 1 - k : Nat) : Int) = true → allV xs = allV (xs.drop (k + 1))) ∧ (validI xs[k] ((xs.length - 1 - k : Nat) : Int) = false → allV xs = false) := by
  rw [List.drop_eq_getElem_cons h, allV, List.length_drop, show xs.length - (k + 1) = xs.length - 1 - k by omega] at hv
  constructor
  · intro h1; rw [hv, h1]; rfl
  · intro h1; rw [hv, h1]; rfl

set_option maxRecDepth 100000 in
set_option maxHeartbeats 1000000 in
theorem MCheck_nil (p : Option Addr) (cap : Nat) (w : World) : Calls Tryz.prog 9 #[.slice p 0 cap] w fun e w' => e = .returned (.int .i64 171) ∧ Below w.heap.size w w' := by
  go_enter Tryz.func9, Tryz.ntmps9
  go_wp2
  go_ret
  exact ⟨rfl, Below.refl _ _⟩

set_option maxRecDepth 100000 in
set_option maxHeartbeats 1000000 in
theorem MCheck_last (g o cap n : Nat) (op : Int) (hn : 1 ≤ n) (hn' : n ≤ 60) (w : World) (hc : w.cell? ⟨g, o + (n - 1) * 6, none⟩ = some (.int .i64 op)) (h7 : (op != 7) = true) (h8 : (op != 8) = true) :
    Calls Tryz.prog 9 #[.slice (some ⟨g, o, none⟩) n cap] w fun e w' => e = .returned (.int .i64 171) ∧ Below w.heap.size w w' := by
  go_enter Tryz.func9, Tryz.ntmps9
  go_wp2
  go_ret
  exact ⟨rfl, Below.refl _ _⟩

set_option maxRecDepth 100000 in
set_option maxHeartbeats 1000000 in
theorem MCheck_loop (g o cap n : Nat) (hn : 1 ≤ n) (hn' : n ≤ 60) (xs : List Ins) (HL : Hid (xs.length = n)) (w : World) (HC : Hid (CodeAt w g o xs)) (HF : Hid (∀ x ∈ xs, x.r.fits)) (op : Int) (hop : (op == 7) = true ∨ (op == 8) = true)
    (hc : w.cell? ⟨g, o + (n - 1) * 6, none⟩ = some (.int .i64 op)) (M : Int) (HM : Hid (M = if allV xs = true then 0 else 171)) :
    Calls Tryz.prog 9 #[.slice (some ⟨g, o, none⟩) n cap] w fun e w' => e = .returned (.int .i64 M) ∧ Below w.heap.size w w' := by
  have hop' : (op != 7) = true ∧ op = 8 ∨ op = 7 := by
    by_cases h : op = 7
    · exact .inr h
    · refine .inl ⟨by simpa using h, ?_⟩
      rcases hop with h1 | h1
      · exact absurd (by simpa using h1) h
      · simpa using h1
  clear hop
  go_enter Tryz.func9, Tryz.ntmps9
  rcases hop' with ⟨h1, rfl⟩ | rfl
  all_goals
    go_wp2
    go_loopw [29] (fun i wr => ∃ k : Nat, k ≤ n ∧ i = .int .i64 (k : Int) ∧ Hid (Below w.heap.size w wr) ∧ Hid (allV xs = allV (xs.drop k))) (fun i _ => n - (intOf i).toNat)
    case atStart => exact ⟨0, Nat.zero_le _, rfl, Below.refl _ _, rfl⟩
    case round =>
      obtain ⟨k, hk, rfl, HW, HV⟩ := hrel
      by_cases hkn : k < n
      · have hkl : k < xs.length := by rw [HL.out]; exact hkn
        have hIns := (HC.out.below HW.out HC.out.1).2 k hkl
        have HNX := Lib.hid (allV_step xs k hkl HV.out)
        have HVAL := Lib.hid (fun w => mvalid_any xs[k] (HF.out _ (List.getElem_mem hkl)) ((xs.length - 1 - k : Nat) : Int) w)
        generalize validI xs[k] ((xs.length - 1 - k : Nat) : Int) = b at *
        have hj : ((xs.length - 1 - k : Nat) : Int) = (n : Int) - 1 - k := by rw [HL.out]; omega
        rw [hj] at HVAL
        generalize xs[k] = x at *
        clear hj hkl
        obtain ⟨op, a, b', s, nn, d⟩ := x
        unfold Ins.v at HVAL
        obtain ⟨c0, c1, c2, c3, c4, c5⟩ := hIns
        dsimp only at *
        cases b with
        | false =>
          go_wp2_with (fail)
          refine (HVAL.out _).mono ?_
          rintro e w1 ⟨rfl, hb⟩
          have HW1 := Lib.hid ((HW.out.alloc HW.out.size _).trans (hb.mono (by simp; exact Nat.le_succ_of_le HW.out.size)))
          clear hb
          go_wp2
          go_ret
          exact ⟨by rw [HM.out, HNX.out.2 (by first | rfl | trivial)]; rfl, HW1.out⟩
        | true =>
          go_wp2_with (fail)
          refine (HVAL.out _).mono ?_
          rintro e w1 ⟨rfl, hb⟩
          have HW1 := Lib.hid ((HW.out.alloc HW.out.size _).trans (hb.mono (by simp; exact Nat.le_succ_of_le HW.out.size)))
          clear hb
          go_wp2
          go_roundw
          case rel => exact ⟨k + 1, by omega, by go_num, HW1.out, HNX.out.1 (by first | rfl | trivial)⟩
          case measure => simp [intOf]; omega
      · obtain rfl : k = n := by omega
        go_wp2
        go_ret
        refine ⟨?_, HW.out⟩
        rw [HM.out, show allV xs = true by rw [HV.out, ← HL.out, List.drop_length]; rfl]; rfl

theorem MCheck_any (g o cap : Nat) (xs : List Ins) (hne : xs ≠ []) (hn : xs.length ≤ 60) (w : World) (hc : CodeAt w g o xs) (hf : ∀ x ∈ xs, x.r.fits) :
    Calls Tryz.prog 9 #[.slice (some ⟨g, o, none⟩) xs.length cap] w fun e w' => e = .returned (.int .i64 (checkM xs)) ∧ Below w.heap.size w w' := by
  have hl : 1 ≤ xs.length := List.length_pos_iff.2 hne
  have h0 := (hc.2 (xs.length - 1) (by omega)).1
  by_cases h : lastOk xs = true
  · have := MCheck_loop g o cap xs.length hl hn xs rfl w hc hf _ (by rw [lastOk_get xs hne] at h; simpa using h) h0 _ rfl
    unfold checkM
    rw [h]
    exact this
  · rw [checkM_last xs (by simpa using h)]
    rw [lastOk_get xs hne] at h
    simp only [Bool.or_eq_true, decide_eq_true_eq, not_or] at h
    exact MCheck_last g o cap xs.length _ hl hn w h0 (by simpa using h.1) (by simpa using h.2)
end Go.Proofs.YteggbpaljmopoaaGreat
/- machine: must, the small methods. -/
namespace Go.Proofs.YteggbpaljmopoaaGreat
open Go.RowKit BF

def errv (e : Int) : List PanicEntry := [{ v := .iface 31 (.int .i64 e), recovered := false }]
theorem mmust_ok (w : World) : Calls Tryz.prog 19 #[.int .i64 0] w fun e w' => e = .returned (.tuple #[]) ∧ w' = w := by
  go_enter Tryz.func19, Tryz.ntmps19
  go_wp2
  go_end0
  exact ⟨rfl, rfl⟩
theorem mmust_bad (k : Int) (hk : (k != 0) = true) (w : World) : Calls Tryz.prog 19 #[.int .i64 k] w fun e w' => e = .panicked (errv k) ∧ w' = w := by
  go_enter Tryz.func19, Tryz.ntmps19
  go_wp2
  exact ⟨rfl, rfl, rfl⟩


/-- below B nothing has turned but block p -/
structure Side (B p : Nat) (w w' : World) : Prop where
  os : w'.os = w.os
  tape : w'.tape = w.tape
  output : w'.output = w.output
  size : w.heap.size ≤ w'.heap.size
  block : ∀ b, b < B → b ≠ p → w'.heap[b]? = w.heap[b]?
theorem Side.refl (B p : Nat) (w : World) : Side B p w w := ⟨rfl, rfl, rfl, Nat.le_refl _, fun _ _ _ => rfl⟩
theorem Side.trans {B p : Nat} {a b c : World} (h : Side B p a b) (k : Side B p b c) : Side B p a c :=
  ⟨k.os.trans h.os, k.tape.trans h.tape, k.output.trans h.output, Nat.le_trans h.size k.size, fun x hx hp => (k.block x hx hp).trans (h.block x hx hp)⟩
theorem Side.of {B p : Nat} {w w' : World} (h : Below B w w') : Side B p w w' := ⟨h.os, h.tape, h.output, h.size, fun b hb _ => h.block b hb⟩
theorem Side.below {B B' p : Nat} {w w' : World} (h : Side B p w w') (h1 : B' ≤ B) (h2 : B' ≤ p) : Below B' w w' := ⟨h.os, h.tape, h.output, h.size, fun b hb => h.block b (by omega) (by omega)⟩
theorem Side.set {B p : Nat} {a w : World} (h : Side B p a w) (i : Nat) (u : Value) : Side B p a (w.setCell ⟨p, i, none⟩ u) :=
  ⟨h.os, h.tape, h.output, by simpa using h.size, fun b hb hp => (Below.heap_setCell _ _ _ _ hp).trans (h.block b hb hp)⟩
theorem Side.alloc {B p : Nat} {a w : World} (h : Side B p a w) (hB : B ≤ w.heap.size) (o : Obj) : Side B p a (w.alloc o) :=
  h.trans (Side.of ((Below.refl B w).alloc hB o))
theorem Side.drew {B p : Nat} {a w : World} (h : Side B p a w) : Side B p a w.drew := ⟨h.os, h.tape, h.output, h.size, h.block⟩
theorem Side.grown {B p : Nat} {a w w' : World} {row : Option Nat} (h : Side B p a w) (hg : w.grownBy w' row) (hB : B ≤ w.heap.size) (hr : ∀ k, row = some k → B ≤ k) : Side B p a w' :=
  h.trans (Side.of ((Below.refl B w).grown hg hB hr))
theorem Blk.side {B p b : Nat} {W W' : World} {T : TypeId} {vs : Array Value} (h : Blk W b T vs) (hs : Side B p W W') (hb : b < B) (hp : b ≠ p) : Blk W' b T vs := (hs.block b hb hp).trans h
theorem Side.cell {B p : Nat} {W W' : World} (hs : Side B p W W') {q : Addr} (hb : q.block < B) (hp : q.block ≠ p) : W'.cell? q = W.cell? q := World.cell?_of_block (w := W) (hs.block q.block hb hp)

theorem grownBy_set (w : World) (p i : Nat) (v : Value) : w.grownBy (w.setCell ⟨p, i, none⟩ v) (some p) :=
  ⟨rfl, rfl, rfl, by simp, fun k _ hk => Below.heap_setCell _ _ _ _ (fun h => hk (by rw [h]))⟩

structure UseV where
  item : Int
  amount : RV
  out : Bool
  back : Bool
deriving DecidableEq
structure WorkV where
  machine : Int
  slots : Int
deriving DecidableEq
def useC (u : UseV) : List Value := [.int .i64 u.item, .bool u.amount.neg, .string u.amount.n, .string u.amount.d, .bool u.out, .bool u.back]
def workC (u : WorkV) : List Value := [.int .i64 u.machine, .int .i64 u.slots]
/-- the cells of the state -/
def stC (c : Value) (a b : RV) (u k : Value) (lead at_ : Int) (done : Bool) : Array Value :=
  #[c, .bool a.neg, .string a.n, .string a.d, .bool b.neg, .string b.n, .string b.d, u, k, .int .i64 lead, .int .i64 at_, .bool done]
def insC (x : Ins) : Array Value := #[.int .i64 x.op, .int .i64 x.a, .int .i64 x.b, .bool x.r.neg, .string x.r.n, .string x.r.d]
/-- the state of a run, in plain terms -/
structure MS where
  b : RV
  us : List UseV
  ws : List WorkV
  lead : Int
  at_ : Int
  done : Bool
/-- how it lies in memory -/
structure StAt (w : World) (B p : Nat) (c : Value) (a : RV) (s : MS) (u k : Value) : Prop where
  blk : Blk w p 63 (stC c a s.b u k s.lead s.at_ s.done)
  uses : w.ownsRow B 58 6 u s.us.length (s.us.flatMap useC)
  work : w.ownsRow B 60 2 k s.ws.length (s.ws.flatMap workC)
  apart : u.ownBlock = none ∨ u.ownBlock ≠ k.ownBlock
  low : p < B
  high : B ≤ w.heap.size

theorem StAt.same {w : World} {B p : Nat} {c : Value} {a : RV} {s : MS} {u k : Value} (h : StAt w B p c a s u k) {w' : World} {s' : MS} (hb : Blk w' p 63 (stC c a s'.b u k s'.lead s'.at_ s'.done)) (hg : w.grownBy w' (some p)) (h1 : s'.us = s.us) (h2 : s'.ws = s.ws) : StAt w' B p c a s' u k := by
  have n1 : u.ownBlock ≠ some p := fun he => by have := (h.uses.lt p he).1; have := h.low; omega
  have n2 : k.ownBlock ≠ some p := fun he => by have := (h.work.lt p he).1; have := h.low; omega
  exact ⟨hb, by rw [h1]; exact h.uses.kept hg (.inr n1), by rw [h2]; exact h.work.kept hg (.inr n2), h.apart, h.low, Nat.le_trans h.high hg.size⟩
theorem StAt.side {w : World} {B p : Nat} {c : Value} {a : RV} {s : MS} {u k : Value} (h : StAt w B p c a s u k) {w' : World} (hg : w.grownBy w' none) : StAt w' B p c a s u k :=
  ⟨h.blk.kept hg (by simp), h.uses.kept hg (by cases h1 : u.ownBlock <;> simp), h.work.kept hg (by cases h1 : k.ownBlock <;> simp), h.apart, h.low, Nat.le_trans h.high hg.size⟩

set_option maxRecDepth 100000 in
set_option maxHeartbeats 1000000 in
theorem jump_any (x : Ins) (p : Nat) (c : Value) (a b : RV) (u k : Value) (lead at_ : Int) (done : Bool) (hw : IntKind.i64.wrap (at_ + x.a) = at_ + x.a) (w : World) (hp : Blk w p 63 (stC c a b u k lead at_ done)) :
    Calls Tryz.prog 37 #[.pointer (some ⟨p, 0, none⟩), x.v] w fun e w' => e = .returned (.tuple #[]) ∧ Blk w' p 63 (stC c a b u k lead (at_ + x.a) done) ∧ w.grownBy w' (some p) := by
  obtain ⟨op, xa, xb, s, n, d⟩ := x
  have HP : Hid (Blk (w.alloc (.cells (insC ⟨op, xa, xb, s, n, d⟩) 40)) p 63 (stC c a b u k lead at_ done)) := hp.alloc _
  have HX : Hid (Blk (w.alloc (.cells (insC ⟨op, xa, xb, s, n, d⟩) 40)) w.heap.size 40 (insC ⟨op, xa, xb, s, n, d⟩)) := Blk.new _ _ _
  have hlt := hp.lt
  have hne : w.heap.size ≠ p := by omega
  unfold insC at HP HX
  unfold stC at HP
  unfold Ins.v
  dsimp only at *
  have c10 := HP.out.cell (i := 10) rfl
  have f := HP.out.frozen
  have x1 := HX.out.cell (i := 1) rfl
  go_enter Tryz.func37, Tryz.ntmps37
  go_wp2
  go_region
  go_wp2
  go_end0
  refine ⟨rfl, ?_, ?_⟩
  · exact ((hp.set (i := 10) (.int .i64 (at_ + xa))).alloc _).drew
  · exact grownBy_drew (grownBy_trans (grownBy_set _ _ _ _) (World.grownBy_alloc _ _ _))
end Go.Proofs.YteggbpaljmopoaaGreat
/- machine: (*state).test, end, fail. PRINTED BY wip/gen_test.py -/
namespace Go.Proofs.YteggbpaljmopoaaGreat
open Go.RowKit BF

theorem old_cell {w : World} {q : Addr} {v : Value} (h : w.cell? q = some v) (o : Obj) : (w.alloc o).cell? q = some v := by
  rw [World.cell?_alloc_lt _ _ _ (World.block_lt_of_cell? w q h)]; exact h

set_option maxRecDepth 100000 in
set_option maxHeartbeats 1000000 in
theorem test1_t (op xb : Int) (s : Bool) (nn d : ByteArray) (day : Int) (p cg co n cap : Nat) (hn : 1 ≤ n) (hn2 : n ≤ 1000) (a b : RV) (u k : Value) (lead at_ : Int) (done : Bool) (hw : IntKind.i64.wrap (at_ + 1) = at_ + 1) (w : World) (hp : Blk w p 63 (stC (.slice (some ⟨cg, co, none⟩) n cap) a b u k lead at_ done)) (hc : w.cell? ⟨cg, co + (n - 1), none⟩ = some (.int .i64 day)) (hd : xb ≤ day) :
    Calls Tryz.prog 36 #[.pointer (some ⟨p, 0, none⟩), .agg #[.int .i64 op, .int .i64 (-1), .int .i64 xb, .bool s, .string nn, .string d]] w fun e w' => e = .returned (.tuple #[]) ∧ Blk w' p 63 (stC (.slice (some ⟨cg, co, none⟩) n cap) a b u k lead (at_ + 1) done) ∧ w.grownBy w' (some p) := by
  have HP : Hid (Blk (w.alloc (.cells #[.int .i64 op, .int .i64 (-1), .int .i64 xb, .bool s, .string nn, .string d] 40)) p 63 (stC (.slice (some ⟨cg, co, none⟩) n cap) a b u k lead at_ done)) := hp.alloc _
  have HX : Hid (Blk (w.alloc (.cells #[.int .i64 op, .int .i64 (-1), .int .i64 xb, .bool s, .string nn, .string d] 40)) w.heap.size 40 #[.int .i64 op, .int .i64 (-1), .int .i64 xb, .bool s, .string nn, .string d]) := Blk.new _ _ _
  have hlt := hp.lt
  have hne : w.heap.size ≠ p := by omega
  have hp0 := Lib.hid hp
  clear hp
  unfold stC at HP
  have p0 := HP.out.cell (i := 0) rfl
  have p10 := HP.out.cell (i := 10) rfl
  have f := HP.out.frozen
  have x1 := HX.out.cell (i := 1) rfl
  have x2 := HX.out.cell (i := 2) rfl
  have hc1 := Lib.hid (old_cell hc (.cells #[.int .i64 op, .int .i64 (-1), .int .i64 xb, .bool s, .string nn, .string d] 40))
  clear hc
  have hc2 := hc1.out
  go_enter Tryz.func36, Tryz.ntmps36
  go_wp2
  go_quiet (fail)
  go_wp2
  go_end0
  refine ⟨rfl, ?_, ?_⟩
  · exact (((hp0.out.alloc _).drewN _).set (i := 10) (.int .i64 (at_ + 1)))
  · exact grownBy_trans (grownBy_drewN (World.grownBy_alloc _ _ _) _) (grownBy_set _ _ _ _)

set_option maxRecDepth 100000 in
set_option maxHeartbeats 1000000 in
theorem test1_f (op xb : Int) (s : Bool) (nn d : ByteArray) (day : Int) (p cg co n cap : Nat) (hn : 1 ≤ n) (hn2 : n ≤ 1000) (a b : RV) (u k : Value) (lead at_ : Int) (done : Bool) (hw : IntKind.i64.wrap (at_ + 1) = at_ + 1) (w : World) (hp : Blk w p 63 (stC (.slice (some ⟨cg, co, none⟩) n cap) a b u k lead at_ done)) (hc : w.cell? ⟨cg, co + (n - 1), none⟩ = some (.int .i64 day)) (hd : day < xb) :
    Calls Tryz.prog 36 #[.pointer (some ⟨p, 0, none⟩), .agg #[.int .i64 op, .int .i64 (-1), .int .i64 xb, .bool s, .string nn, .string d]] w fun e w' => e = .returned (.tuple #[]) ∧ Blk w' p 63 (stC (.slice (some ⟨cg, co, none⟩) n cap) a b u k lead at_ done) ∧ w.grownBy w' (some p) := by
  have HP : Hid (Blk (w.alloc (.cells #[.int .i64 op, .int .i64 (-1), .int .i64 xb, .bool s, .string nn, .string d] 40)) p 63 (stC (.slice (some ⟨cg, co, none⟩) n cap) a b u k lead at_ done)) := hp.alloc _
  have HX : Hid (Blk (w.alloc (.cells #[.int .i64 op, .int .i64 (-1), .int .i64 xb, .bool s, .string nn, .string d] 40)) w.heap.size 40 #[.int .i64 op, .int .i64 (-1), .int .i64 xb, .bool s, .string nn, .string d]) := Blk.new _ _ _
  have hlt := hp.lt
  have hne : w.heap.size ≠ p := by omega
  have hp0 := Lib.hid hp
  clear hp
  unfold stC at HP
  have p0 := HP.out.cell (i := 0) rfl
  have p10 := HP.out.cell (i := 10) rfl
  have f := HP.out.frozen
  have x1 := HX.out.cell (i := 1) rfl
  have x2 := HX.out.cell (i := 2) rfl
  have hc1 := Lib.hid (old_cell hc (.cells #[.int .i64 op, .int .i64 (-1), .int .i64 xb, .bool s, .string nn, .string d] 40))
  clear hc
  have hc2 := hc1.out
  go_enter Tryz.func36, Tryz.ntmps36
  go_wp2
  go_quiet (fail)
  go_wp2
  go_end0
  exact ⟨rfl, (hp0.out.alloc _).drewN _, grownBy_drewN (World.grownBy_alloc _ _ _) _⟩

set_option maxRecDepth 100000 in
set_option maxHeartbeats 1000000 in
theorem test2_t (op xb : Int) (s : Bool) (nn d : ByteArray) (day : Int) (p cg co n cap : Nat) (hn : 1 ≤ n) (hn2 : n ≤ 1000) (a b : RV) (u k : Value) (lead at_ : Int) (done : Bool) (hw : IntKind.i64.wrap (at_ + 1) = at_ + 1) (w : World) (hp : Blk w p 63 (stC (.slice (some ⟨cg, co, none⟩) n cap) a b u k lead at_ done)) (hc : w.cell? ⟨cg, co + (n - 1), none⟩ = some (.int .i64 day)) (hd : day < xb) :
    Calls Tryz.prog 36 #[.pointer (some ⟨p, 0, none⟩), .agg #[.int .i64 op, .int .i64 (-2), .int .i64 xb, .bool s, .string nn, .string d]] w fun e w' => e = .returned (.tuple #[]) ∧ Blk w' p 63 (stC (.slice (some ⟨cg, co, none⟩) n cap) a b u k lead (at_ + 1) done) ∧ w.grownBy w' (some p) := by
  have HP : Hid (Blk (w.alloc (.cells #[.int .i64 op, .int .i64 (-2), .int .i64 xb, .bool s, .string nn, .string d] 40)) p 63 (stC (.slice (some ⟨cg, co, none⟩) n cap) a b u k lead at_ done)) := hp.alloc _
  have HX : Hid (Blk (w.alloc (.cells #[.int .i64 op, .int .i64 (-2), .int .i64 xb, .bool s, .string nn, .string d] 40)) w.heap.size 40 #[.int .i64 op, .int .i64 (-2), .int .i64 xb, .bool s, .string nn, .string d]) := Blk.new _ _ _
  have hlt := hp.lt
  have hne : w.heap.size ≠ p := by omega
  have hp0 := Lib.hid hp
  clear hp
  unfold stC at HP
  have p0 := HP.out.cell (i := 0) rfl
  have p10 := HP.out.cell (i := 10) rfl
  have f := HP.out.frozen
  have x1 := HX.out.cell (i := 1) rfl
  have x2 := HX.out.cell (i := 2) rfl
  have hc1 := Lib.hid (old_cell hc (.cells #[.int .i64 op, .int .i64 (-2), .int .i64 xb, .bool s, .string nn, .string d] 40))
  clear hc
  have hc2 := hc1.out
  go_enter Tryz.func36, Tryz.ntmps36
  go_wp2
  go_quiet (fail)
  go_wp2
  go_end0
  refine ⟨rfl, ?_, ?_⟩
  · exact (((hp0.out.alloc _).drewN _).set (i := 10) (.int .i64 (at_ + 1)))
  · exact grownBy_trans (grownBy_drewN (World.grownBy_alloc _ _ _) _) (grownBy_set _ _ _ _)

set_option maxRecDepth 100000 in
set_option maxHeartbeats 1000000 in
theorem test2_f (op xb : Int) (s : Bool) (nn d : ByteArray) (day : Int) (p cg co n cap : Nat) (hn : 1 ≤ n) (hn2 : n ≤ 1000) (a b : RV) (u k : Value) (lead at_ : Int) (done : Bool) (hw : IntKind.i64.wrap (at_ + 1) = at_ + 1) (w : World) (hp : Blk w p 63 (stC (.slice (some ⟨cg, co, none⟩) n cap) a b u k lead at_ done)) (hc : w.cell? ⟨cg, co + (n - 1), none⟩ = some (.int .i64 day)) (hd : xb ≤ day) :
    Calls Tryz.prog 36 #[.pointer (some ⟨p, 0, none⟩), .agg #[.int .i64 op, .int .i64 (-2), .int .i64 xb, .bool s, .string nn, .string d]] w fun e w' => e = .returned (.tuple #[]) ∧ Blk w' p 63 (stC (.slice (some ⟨cg, co, none⟩) n cap) a b u k lead at_ done) ∧ w.grownBy w' (some p) := by
  have HP : Hid (Blk (w.alloc (.cells #[.int .i64 op, .int .i64 (-2), .int .i64 xb, .bool s, .string nn, .string d] 40)) p 63 (stC (.slice (some ⟨cg, co, none⟩) n cap) a b u k lead at_ done)) := hp.alloc _
  have HX : Hid (Blk (w.alloc (.cells #[.int .i64 op, .int .i64 (-2), .int .i64 xb, .bool s, .string nn, .string d] 40)) w.heap.size 40 #[.int .i64 op, .int .i64 (-2), .int .i64 xb, .bool s, .string nn, .string d]) := Blk.new _ _ _
  have hlt := hp.lt
  have hne : w.heap.size ≠ p := by omega
  have hp0 := Lib.hid hp
  clear hp
  unfold stC at HP
  have p0 := HP.out.cell (i := 0) rfl
  have p10 := HP.out.cell (i := 10) rfl
  have f := HP.out.frozen
  have x1 := HX.out.cell (i := 1) rfl
  have x2 := HX.out.cell (i := 2) rfl
  have hc1 := Lib.hid (old_cell hc (.cells #[.int .i64 op, .int .i64 (-2), .int .i64 xb, .bool s, .string nn, .string d] 40))
  clear hc
  have hc2 := hc1.out
  go_enter Tryz.func36, Tryz.ntmps36
  go_wp2
  go_quiet (fail)
  go_wp2
  go_end0
  exact ⟨rfl, (hp0.out.alloc _).drewN _, grownBy_drewN (World.grownBy_alloc _ _ _) _⟩

set_option maxRecDepth 100000 in
set_option maxHeartbeats 1000000 in
theorem test3_t (op xb : Int) (s : Bool) (nn d : ByteArray) (z : Int) (j : Nat) (p cg co n cap : Nat) (hn : 1 ≤ n) (hn2 : n ≤ 1000) (a b : RV) (u k : Value) (lead at_ : Int) (done : Bool) (hw : IntKind.i64.wrap (at_ + 1) = at_ + 1) (w : World) (hp : Blk w p 63 (stC (.slice (some ⟨cg, co, none⟩) n cap) a b u k lead at_ done)) (hc : w.cell? ⟨cg, co + j, none⟩ = some (.int .i64 z)) (hj : (j : Int) < (n : Int) - 1) (hd : (z == xb) = true) :
    Calls Tryz.prog 36 #[.pointer (some ⟨p, 0, none⟩), .agg #[.int .i64 op, .int .i64 (j : Int), .int .i64 xb, .bool s, .string nn, .string d]] w fun e w' => e = .returned (.tuple #[]) ∧ Blk w' p 63 (stC (.slice (some ⟨cg, co, none⟩) n cap) a b u k lead (at_ + 1) done) ∧ w.grownBy w' (some p) := by
  have HP : Hid (Blk (w.alloc (.cells #[.int .i64 op, .int .i64 (j : Int), .int .i64 xb, .bool s, .string nn, .string d] 40)) p 63 (stC (.slice (some ⟨cg, co, none⟩) n cap) a b u k lead at_ done)) := hp.alloc _
  have HX : Hid (Blk (w.alloc (.cells #[.int .i64 op, .int .i64 (j : Int), .int .i64 xb, .bool s, .string nn, .string d] 40)) w.heap.size 40 #[.int .i64 op, .int .i64 (j : Int), .int .i64 xb, .bool s, .string nn, .string d]) := Blk.new _ _ _
  have hlt := hp.lt
  have hne : w.heap.size ≠ p := by omega
  have hp0 := Lib.hid hp
  clear hp
  unfold stC at HP
  have p0 := HP.out.cell (i := 0) rfl
  have p10 := HP.out.cell (i := 10) rfl
  have f := HP.out.frozen
  have x1 := HX.out.cell (i := 1) rfl
  have x2 := HX.out.cell (i := 2) rfl
  have hc1 := Lib.hid (old_cell hc (.cells #[.int .i64 op, .int .i64 (j : Int), .int .i64 xb, .bool s, .string nn, .string d] 40))
  clear hc
  have hc2 := hc1.out
  go_enter Tryz.func36, Tryz.ntmps36
  go_wp2
  go_quiet (fail)
  go_wp2
  go_end0
  refine ⟨rfl, ?_, ?_⟩
  · exact (((hp0.out.alloc _).drewN _).set (i := 10) (.int .i64 (at_ + 1)))
  · exact grownBy_trans (grownBy_drewN (World.grownBy_alloc _ _ _) _) (grownBy_set _ _ _ _)

set_option maxRecDepth 100000 in
set_option maxHeartbeats 1000000 in
theorem test3_f (op xb : Int) (s : Bool) (nn d : ByteArray) (z : Int) (j : Nat) (p cg co n cap : Nat) (hn : 1 ≤ n) (hn2 : n ≤ 1000) (a b : RV) (u k : Value) (lead at_ : Int) (done : Bool) (hw : IntKind.i64.wrap (at_ + 1) = at_ + 1) (w : World) (hp : Blk w p 63 (stC (.slice (some ⟨cg, co, none⟩) n cap) a b u k lead at_ done)) (hc : w.cell? ⟨cg, co + j, none⟩ = some (.int .i64 z)) (hj : (j : Int) < (n : Int) - 1) (hd : (z == xb) = false) :
    Calls Tryz.prog 36 #[.pointer (some ⟨p, 0, none⟩), .agg #[.int .i64 op, .int .i64 (j : Int), .int .i64 xb, .bool s, .string nn, .string d]] w fun e w' => e = .returned (.tuple #[]) ∧ Blk w' p 63 (stC (.slice (some ⟨cg, co, none⟩) n cap) a b u k lead at_ done) ∧ w.grownBy w' (some p) := by
  have HP : Hid (Blk (w.alloc (.cells #[.int .i64 op, .int .i64 (j : Int), .int .i64 xb, .bool s, .string nn, .string d] 40)) p 63 (stC (.slice (some ⟨cg, co, none⟩) n cap) a b u k lead at_ done)) := hp.alloc _
  have HX : Hid (Blk (w.alloc (.cells #[.int .i64 op, .int .i64 (j : Int), .int .i64 xb, .bool s, .string nn, .string d] 40)) w.heap.size 40 #[.int .i64 op, .int .i64 (j : Int), .int .i64 xb, .bool s, .string nn, .string d]) := Blk.new _ _ _
  have hlt := hp.lt
  have hne : w.heap.size ≠ p := by omega
  have hp0 := Lib.hid hp
  clear hp
  unfold stC at HP
  have p0 := HP.out.cell (i := 0) rfl
  have p10 := HP.out.cell (i := 10) rfl
  have f := HP.out.frozen
  have x1 := HX.out.cell (i := 1) rfl
  have x2 := HX.out.cell (i := 2) rfl
  have hc1 := Lib.hid (old_cell hc (.cells #[.int .i64 op, .int .i64 (j : Int), .int .i64 xb, .bool s, .string nn, .string d] 40))
  clear hc
  have hc2 := hc1.out
  go_enter Tryz.func36, Tryz.ntmps36
  go_wp2
  go_quiet (fail)
  go_wp2
  go_end0
  exact ⟨rfl, (hp0.out.alloc _).drewN _, grownBy_drewN (World.grownBy_alloc _ _ _) _⟩

set_option maxRecDepth 100000 in
set_option maxHeartbeats 1000000 in
theorem test3_n (op xb : Int) (s : Bool) (nn d : ByteArray) (j : Nat) (p cg co n cap : Nat) (hn : 1 ≤ n) (hn2 : n ≤ 1000) (a b : RV) (u k : Value) (lead at_ : Int) (done : Bool) (hw : IntKind.i64.wrap (at_ + 1) = at_ + 1) (w : World) (hp : Blk w p 63 (stC (.slice (some ⟨cg, co, none⟩) n cap) a b u k lead at_ done)) (hj : decide ((j : Int) < (n : Int) - 1) = false) :
    Calls Tryz.prog 36 #[.pointer (some ⟨p, 0, none⟩), .agg #[.int .i64 op, .int .i64 (j : Int), .int .i64 xb, .bool s, .string nn, .string d]] w fun e w' => e = .returned (.tuple #[]) ∧ Blk w' p 63 (stC (.slice (some ⟨cg, co, none⟩) n cap) a b u k lead at_ done) ∧ w.grownBy w' (some p) := by
  have HP : Hid (Blk (w.alloc (.cells #[.int .i64 op, .int .i64 (j : Int), .int .i64 xb, .bool s, .string nn, .string d] 40)) p 63 (stC (.slice (some ⟨cg, co, none⟩) n cap) a b u k lead at_ done)) := hp.alloc _
  have HX : Hid (Blk (w.alloc (.cells #[.int .i64 op, .int .i64 (j : Int), .int .i64 xb, .bool s, .string nn, .string d] 40)) w.heap.size 40 #[.int .i64 op, .int .i64 (j : Int), .int .i64 xb, .bool s, .string nn, .string d]) := Blk.new _ _ _
  have hlt := hp.lt
  have hne : w.heap.size ≠ p := by omega
  have hp0 := Lib.hid hp
  clear hp
  unfold stC at HP
  have p0 := HP.out.cell (i := 0) rfl
  have p10 := HP.out.cell (i := 10) rfl
  have f := HP.out.frozen
  have x1 := HX.out.cell (i := 1) rfl
  have x2 := HX.out.cell (i := 2) rfl
  go_enter Tryz.func36, Tryz.ntmps36
  go_wp2
  go_quiet (fail)
  go_wp2
  go_end0
  exact ⟨rfl, (hp0.out.alloc _).drewN _, grownBy_drewN (World.grownBy_alloc _ _ _) _⟩

end Go.Proofs.YteggbpaljmopoaaGreat
