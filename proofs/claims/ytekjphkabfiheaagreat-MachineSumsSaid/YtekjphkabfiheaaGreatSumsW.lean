/- The law MachineSums: its first walks. Conditions: those that each theorem states. -/
import Derived.Test.YtekjphkabfiheaaGreatFuelW
import Derived.Test.YtekjphkabfiheaaGreatMachE
set_option linter.unusedVariables false
set_option linter.unusedSimpArgs false
/- MachineSums: the walk. PRINTED BY wip/gen_sums.py -/
namespace Go.Proofs.YtekjphkabfiheaaGreat
open Go.RowKit BF
theorem sum_boxes (w : World) (a b : Array Value) : ∃ W, (w.alloc (.cells a 48)).alloc (.cells b 48) = W ∧ Hid (Blk W w.heap.size 48 a) ∧ Hid (Blk W (w.heap.size + 1) 48 b) ∧ Hid (Below w.heap.size w W) :=
  ⟨_, rfl, (Blk.new w _ _).alloc _, Blk.new' _ _ _ _ (by simp), ((Below.refl _ w).alloc (Nat.le_refl _) _).alloc (by simp) _⟩
set_option maxRecDepth 100000 in
set_option maxHeartbeats 2000000 in
theorem sums_few (b1 b2 b3 : Bool) (m : Nat) (hm : m ≤ maxLen) (hb : b1 = false ∨ b1 = true ∧ b2 = false ∨ b1 = true ∧ b2 = true ∧ b3 = false ∨ b1 = true ∧ b2 = true ∧ b3 = true ∧ 12 < m) (cv : Value) (p : Option Addr) (cap : Nat) (n0 : Bool) (n1 n2 : ByteArray) (m0 : Bool) (m1 m2 : ByteArray) (w : World)
    (HS : Hid (∀ w : World, Calls Tryz.prog 28 #[] w fun e w' => e = .returned (.bool true) ∧ Below w.heap.size w w'))
    (HF : Hid (∀ w', Below w.heap.size w w' → Calls Tryz.prog 29 #[cv] w' fun e w'' => e = .returned (.bool b1) ∧ Below w'.heap.size w' w''))
    (HR1 : Hid (∀ w : World, Calls Tryz.prog 30 #[.agg #[.bool n0, .string n1, .string n2]] w fun e w' => e = .returned (.bool b2) ∧ Below w.heap.size w w'))
    (HR2 : Hid (∀ w : World, Calls Tryz.prog 30 #[.agg #[.bool m0, .string m1, .string m2]] w fun e w' => e = .returned (.bool b3) ∧ Below w.heap.size w w')) :
    Calls Tryz.prog 10 #[cv, .slice p m cap, .agg #[.bool n0, .string n1, .string n2], .agg #[.bool m0, .string m1, .string m2]] w fun e w' => e = .returned (.bool true) ∧ Below w.heap.size w w' := by
  unfold maxLen at hm
  obtain ⟨W, hW, HA0, HB0, HW0⟩ := sum_boxes w #[.bool n0, .string n1, .string n2] #[.bool m0, .string m1, .string m2]
  go_enter Tryz.func10, Tryz.ntmps10
  go_wp2_with (fail)
  clear hW
  refine (HS.out _).mono ?_
  rintro e w1 ⟨rfl, hb⟩
  have HA1 := Lib.hid (HA0.out.under hb)
  have HB1 := Lib.hid (HB0.out.under hb)
  have HW1 := Lib.hid (HW0.out.trans (hb.mono HW0.out.size))
  clear hb
  go_wp2_with (fail)
  refine (HF.out _ HW1.out).mono ?_
  rintro e w2 ⟨rfl, hb⟩
  have HA2 := Lib.hid (HA1.out.under hb)
  have HB2 := Lib.hid (HB1.out.under hb)
  have HW2 := Lib.hid (HW1.out.trans (hb.mono HW1.out.size))
  clear hb
  rcases hb with rfl | ⟨rfl, rfl⟩ | ⟨rfl, rfl, rfl⟩ | ⟨rfl, rfl, rfl, h12⟩
  · go_wp2
    go_ret
    exact ⟨rfl, HW2.out⟩
  · have cA0 := HA2.out.cell (i := 0) rfl
    have cA1 := HA2.out.cell (i := 1) rfl
    have cA2 := HA2.out.cell (i := 2) rfl
    go_wp2_with (fail)
    refine (HR1.out _).mono ?_
    rintro e w3 ⟨rfl, hb⟩
    have HA3 := Lib.hid (HA2.out.under hb)
    have HB3 := Lib.hid (HB2.out.under hb)
    have HW3 := Lib.hid (HW2.out.trans (hb.mono HW2.out.size))
    clear hb cA0 cA1 cA2
    go_wp2
    go_ret
    exact ⟨rfl, HW3.out⟩
  · have cA0 := HA2.out.cell (i := 0) rfl
    have cA1 := HA2.out.cell (i := 1) rfl
    have cA2 := HA2.out.cell (i := 2) rfl
    go_wp2_with (fail)
    refine (HR1.out _).mono ?_
    rintro e w3 ⟨rfl, hb⟩
    have HA3 := Lib.hid (HA2.out.under hb)
    have HB3 := Lib.hid (HB2.out.under hb)
    have HW3 := Lib.hid (HW2.out.trans (hb.mono HW2.out.size))
    clear hb cA0 cA1 cA2
    have cB0 := HB3.out.cell (i := 0) rfl
    have cB1 := HB3.out.cell (i := 1) rfl
    have cB2 := HB3.out.cell (i := 2) rfl
    go_wp2_with (fail)
    refine (HR2.out _).mono ?_
    rintro e w4 ⟨rfl, hb⟩
    have HA4 := Lib.hid (HA3.out.under hb)
    have HB4 := Lib.hid (HB3.out.under hb)
    have HW4 := Lib.hid (HW3.out.trans (hb.mono HW3.out.size))
    clear hb cB0 cB1 cB2
    go_wp2
    go_ret
    exact ⟨rfl, HW4.out⟩
  · have cA0 := HA2.out.cell (i := 0) rfl
    have cA1 := HA2.out.cell (i := 1) rfl
    have cA2 := HA2.out.cell (i := 2) rfl
    go_wp2_with (fail)
    refine (HR1.out _).mono ?_
    rintro e w3 ⟨rfl, hb⟩
    have HA3 := Lib.hid (HA2.out.under hb)
    have HB3 := Lib.hid (HB2.out.under hb)
    have HW3 := Lib.hid (HW2.out.trans (hb.mono HW2.out.size))
    clear hb cA0 cA1 cA2
    have cB0 := HB3.out.cell (i := 0) rfl
    have cB1 := HB3.out.cell (i := 1) rfl
    have cB2 := HB3.out.cell (i := 2) rfl
    go_wp2_with (fail)
    refine (HR2.out _).mono ?_
    rintro e w4 ⟨rfl, hb⟩
    have HA4 := Lib.hid (HA3.out.under hb)
    have HB4 := Lib.hid (HB3.out.under hb)
    have HW4 := Lib.hid (HW3.out.trans (hb.mono HW3.out.size))
    clear hb cB0 cB1 cB2
    have h12' : (12 : Int) < (m : Int) := by omega
    go_wp2
    go_ret
    exact ⟨rfl, HW4.out⟩
def RunE (E : Int) (w : World) (e : Ending) (w' : World) : Prop := ∃ u k lead left, e = .returned (.tuple #[u, k, .int .i64 lead, .int .i64 left, .int .i64 E]) ∧ Below w.heap.size w w'
set_option maxRecDepth 100000 in
set_option maxHeartbeats 2000000 in
theorem sums_err (E F : Int) (hE : (E != 0) = true ∨ E = 0 ∧ (F != 0) = true) (n m : Nat) (hn : n ≤ 60) (hm : m ≤ 12) (p q : Option Addr) (cap capq : Nat) (n0 : Bool) (n1 n2 : ByteArray) (m0 : Bool) (m1 m2 : ByteArray) (w : World)
    (HS : Hid (∀ w : World, Calls Tryz.prog 28 #[] w fun e w' => e = .returned (.bool true) ∧ Below w.heap.size w w'))
    (HF : Hid (∀ w', Below w.heap.size w w' → Calls Tryz.prog 29 #[.slice q n capq] w' fun e w'' => e = .returned (.bool true) ∧ Below w'.heap.size w' w''))
    (HR1 : Hid (∀ w : World, Calls Tryz.prog 30 #[.agg #[.bool n0, .string n1, .string n2]] w fun e w' => e = .returned (.bool true) ∧ Below w.heap.size w w'))
    (HR2 : Hid (∀ w : World, Calls Tryz.prog 30 #[.agg #[.bool m0, .string m1, .string m2]] w fun e w' => e = .returned (.bool true) ∧ Below w.heap.size w w'))
    (H0 : Hid (∀ w', Below w.heap.size w w' → Calls Tryz.prog 31 #[.slice q n capq, .slice p m cap, .agg #[.bool n0, .string n1, .string n2], .int .i64 (n : Int)] w' (RunE E w')))
    (H1 : Hid (∀ w', Below w.heap.size w w' → Calls Tryz.prog 31 #[.slice q n capq, .slice p m cap, .agg #[.bool m0, .string m1, .string m2], .int .i64 (n : Int)] w' (RunE F w'))) :
    Calls Tryz.prog 10 #[.slice q n capq, .slice p m cap, .agg #[.bool n0, .string n1, .string n2], .agg #[.bool m0, .string m1, .string m2]] w fun e w' => e = .returned (.bool true) ∧ Below w.heap.size w w' := by
  have hm12 : ¬ (12 : Int) < (m : Int) := by omega
  obtain ⟨W, hW, HA0, HB0, HW0⟩ := sum_boxes w #[.bool n0, .string n1, .string n2] #[.bool m0, .string m1, .string m2]
  go_enter Tryz.func10, Tryz.ntmps10
  go_wp2_with (fail)
  clear hW
  refine (HS.out _).mono ?_
  rintro e w1 ⟨rfl, hb⟩
  have HA1 := Lib.hid (HA0.out.under hb)
  have HB1 := Lib.hid (HB0.out.under hb)
  have HW1 := Lib.hid (HW0.out.trans (hb.mono HW0.out.size))
  clear hb
  go_wp2_with (fail)
  refine (HF.out _ HW1.out).mono ?_
  rintro e w2 ⟨rfl, hb⟩
  have HA2 := Lib.hid (HA1.out.under hb)
  have HB2 := Lib.hid (HB1.out.under hb)
  have HW2 := Lib.hid (HW1.out.trans (hb.mono HW1.out.size))
  clear hb
  have cA0 := HA2.out.cell (i := 0) rfl
  have cA1 := HA2.out.cell (i := 1) rfl
  have cA2 := HA2.out.cell (i := 2) rfl
  go_wp2_with (fail)
  refine (HR1.out _).mono ?_
  rintro e w3 ⟨rfl, hb⟩
  have HA3 := Lib.hid (HA2.out.under hb)
  have HB3 := Lib.hid (HB2.out.under hb)
  have HW3 := Lib.hid (HW2.out.trans (hb.mono HW2.out.size))
  clear hb cA0 cA1 cA2
  have cB0 := HB3.out.cell (i := 0) rfl
  have cB1 := HB3.out.cell (i := 1) rfl
  have cB2 := HB3.out.cell (i := 2) rfl
  go_wp2_with (fail)
  refine (HR2.out _).mono ?_
  rintro e w4 ⟨rfl, hb⟩
  have HA4 := Lib.hid (HA3.out.under hb)
  have HB4 := Lib.hid (HB3.out.under hb)
  have HW4 := Lib.hid (HW3.out.trans (hb.mono HW3.out.size))
  clear hb cB0 cB1 cB2
  have cA0 := HA4.out.cell (i := 0) rfl
  have cA1 := HA4.out.cell (i := 1) rfl
  have cA2 := HA4.out.cell (i := 2) rfl
  go_wp2_with (fail)
  refine (H0.out _ HW4.out).mono ?_
  rintro e w5 ⟨u1, k1, l1, f1, rfl, hb⟩
  have HA5 := Lib.hid (HA4.out.under hb)
  have HB5 := Lib.hid (HB4.out.under hb)
  have HW5 := Lib.hid (HW4.out.trans (hb.mono HW4.out.size))
  clear hb cA0 cA1 cA2
  have cB0 := HB5.out.cell (i := 0) rfl
  have cB1 := HB5.out.cell (i := 1) rfl
  have cB2 := HB5.out.cell (i := 2) rfl
  go_wp2_with (fail)
  refine (H1.out _ HW5.out).mono ?_
  rintro e w6 ⟨u2, k2, l2, f2, rfl, hb⟩
  have HA6 := Lib.hid (HA5.out.under hb)
  have HB6 := Lib.hid (HB5.out.under hb)
  have HW6 := Lib.hid (HW5.out.trans (hb.mono HW5.out.size))
  clear hb cB0 cB1 cB2
  rcases hE with hE | ⟨rfl, hE⟩
  · go_wp2
    go_ret
    exact ⟨rfl, HW6.out⟩
  · go_wp2
    go_ret
    exact ⟨rfl, HW6.out⟩
def RunS (us : List UseV) (ws : List WorkV) (nu nk : Nat) (lead : Int) (w : World) (e : Ending) (w' : World) : Prop :=
  ∃ p c q d left, e = .returned (.tuple #[.slice p nu c, .slice q nk d, .int .i64 lead, .int .i64 left, .int .i64 0]) ∧ RowIs UseAt 6 w' (.slice p nu c) us ∧ RowIs WorkAt 2 w' (.slice q nk d) ws ∧ Below w.heap.size w w'
theorem Nx_al (w : World) (o : Obj) : Below w.heap.size w (w.alloc o) := (Below.refl _ w).alloc (Nat.le_refl _) o
set_option maxRecDepth 100000 in
set_option maxHeartbeats 4000000 in
theorem sums_lim (us vs : List UseV) (ws xs : List WorkV) (nu nk : Nat) (hnu : nu ≤ maxLen) (hnk : nk ≤ maxLen) (lead : Int) (n m : Nat) (hn : n ≤ 60) (hm : m ≤ 12) (p q : Option Addr) (cap capq : Nat) (n0 : Bool) (n1 n2 : ByteArray) (m0 : Bool) (m1 m2 : ByteArray) (w : World) (r0 : Bool) (r1 r2 : ByteArray)
    (HS : Hid (∀ w : World, Calls Tryz.prog 28 #[] w fun e w' => e = .returned (.bool true) ∧ Below w.heap.size w w'))
    (HF : Hid (∀ w', Below w.heap.size w w' → Calls Tryz.prog 29 #[.slice q n capq] w' fun e w'' => e = .returned (.bool true) ∧ Below w'.heap.size w' w''))
    (HR1 : Hid (∀ w : World, Calls Tryz.prog 30 #[.agg #[.bool n0, .string n1, .string n2]] w fun e w' => e = .returned (.bool true) ∧ Below w.heap.size w w'))
    (HR2 : Hid (∀ w : World, Calls Tryz.prog 30 #[.agg #[.bool m0, .string m1, .string m2]] w fun e w' => e = .returned (.bool true) ∧ Below w.heap.size w w'))
    (H0 : Hid (∀ w', Below w.heap.size w w' → Calls Tryz.prog 31 #[.slice q n capq, .slice p m cap, .agg #[.bool n0, .string n1, .string n2], .int .i64 (n : Int)] w' (RunS us ws nu nk lead w')))
    (H1 : Hid (∀ w', Below w.heap.size w w' → Calls Tryz.prog 31 #[.slice q n capq, .slice p m cap, .agg #[.bool m0, .string m1, .string m2], .int .i64 (n : Int)] w' (RunS vs xs nu nk lead w')))
    (HP : Hid (∀ w : World, Calls Tryz.prog 24 #[.agg #[.bool n0, .string n1, .string n2], .agg #[.bool m0, .string m1, .string m2]] w fun e w' => e = .returned (.tuple #[.agg #[.bool r0, .string r1, .string r2], .int .i64 0]) ∧ Below w.heap.size w w'))
    (H2 : Hid (∀ w', Below w.heap.size w w' → Calls Tryz.prog 31 #[.slice q n capq, .slice p m cap, .agg #[.bool r0, .string r1, .string r2], .int .i64 (n : Int)] w' (RunE 2 w'))) :
    Calls Tryz.prog 10 #[.slice q n capq, .slice p m cap, .agg #[.bool n0, .string n1, .string n2], .agg #[.bool m0, .string m1, .string m2]] w fun e w' => e = .returned (.bool true) ∧ Below w.heap.size w w' := by
  unfold maxLen at hnu hnk
  have hm12 : ¬ (12 : Int) < (m : Int) := by omega
  have hll : (lead != lead) = false := by simp
  have hnn : ((nu : Int) != (nu : Int)) = false := by simp
  have hkk : ((nk : Int) != (nk : Int)) = false := by simp
  obtain ⟨W, hW, HA0, HB0, HW0⟩ := sum_boxes w #[.bool n0, .string n1, .string n2] #[.bool m0, .string m1, .string m2]
  go_enter Tryz.func10, Tryz.ntmps10
  go_wp2_with (fail)
  clear hW
  refine (HS.out _).mono ?_
  rintro e w1 ⟨rfl, hb⟩
  have HA1 := Lib.hid (HA0.out.under hb)
  have HB1 := Lib.hid (HB0.out.under hb)
  have HW1 := Lib.hid (HW0.out.trans (hb.mono HW0.out.size))
  clear hb
  go_wp2_with (fail)
  refine (HF.out _ HW1.out).mono ?_
  rintro e w2 ⟨rfl, hb⟩
  have HA2 := Lib.hid (HA1.out.under hb)
  have HB2 := Lib.hid (HB1.out.under hb)
  have HW2 := Lib.hid (HW1.out.trans (hb.mono HW1.out.size))
  clear hb
  have cA0 := HA2.out.cell (i := 0) rfl
  have cA1 := HA2.out.cell (i := 1) rfl
  have cA2 := HA2.out.cell (i := 2) rfl
  go_wp2_with (fail)
  refine (HR1.out _).mono ?_
  rintro e w3 ⟨rfl, hb⟩
  have HA3 := Lib.hid (HA2.out.under hb)
  have HB3 := Lib.hid (HB2.out.under hb)
  have HW3 := Lib.hid (HW2.out.trans (hb.mono HW2.out.size))
  clear hb cA0 cA1 cA2
  have cB0 := HB3.out.cell (i := 0) rfl
  have cB1 := HB3.out.cell (i := 1) rfl
  have cB2 := HB3.out.cell (i := 2) rfl
  go_wp2_with (fail)
  refine (HR2.out _).mono ?_
  rintro e w4 ⟨rfl, hb⟩
  have HA4 := Lib.hid (HA3.out.under hb)
  have HB4 := Lib.hid (HB3.out.under hb)
  have HW4 := Lib.hid (HW3.out.trans (hb.mono HW3.out.size))
  clear hb cB0 cB1 cB2
  have cA0 := HA4.out.cell (i := 0) rfl
  have cA1 := HA4.out.cell (i := 1) rfl
  have cA2 := HA4.out.cell (i := 2) rfl
  go_wp2_with (fail)
  refine (H0.out _ HW4.out).mono ?_
  rintro e w5 ⟨p1, c1, p2, c2, f1, rfl, hu, hk, hb⟩
  have HA5 := Lib.hid (HA4.out.under hb)
  have HB5 := Lib.hid (HB4.out.under hb)
  have HW5 := Lib.hid (HW4.out.trans (hb.mono HW4.out.size))
  have HU5 := Lib.hid hu
  have HK5 := Lib.hid hk
  clear hb hu hk cA0 cA1 cA2
  have cB0 := HB5.out.cell (i := 0) rfl
  have cB1 := HB5.out.cell (i := 1) rfl
  have cB2 := HB5.out.cell (i := 2) rfl
  go_wp2_with (fail)
  refine (H1.out _ HW5.out).mono ?_
  rintro e w6 ⟨p3, c3, p4, c4, f2, rfl, hu, hk, hb⟩
  have HA6 := Lib.hid (HA5.out.under hb)
  have HB6 := Lib.hid (HB5.out.under hb)
  have HW6 := Lib.hid (HW5.out.trans (hb.mono HW5.out.size))
  have HU6 := Lib.hid (uses_under HU5.out hb)
  have HK6 := Lib.hid (work_under HK5.out hb)
  have HV6 := Lib.hid hu
  have HX6 := Lib.hid hk
  clear hb hu hk cB0 cB1 cB2
  have cA0 := HA6.out.cell (i := 0) rfl
  have cA1 := HA6.out.cell (i := 1) rfl
  have cA2 := HA6.out.cell (i := 2) rfl
  have cB0 := HB6.out.cell (i := 0) rfl
  have cB1 := HB6.out.cell (i := 1) rfl
  have cB2 := HB6.out.cell (i := 2) rfl
  go_wp2_with (fail)
  refine (HP.out _).mono ?_
  rintro e w7 ⟨rfl, hb⟩
  have HA7 := Lib.hid (HA6.out.under hb)
  have HB7 := Lib.hid (HB6.out.under hb)
  have HW7 := Lib.hid (HW6.out.trans (hb.mono HW6.out.size))
  have HU7 := Lib.hid (uses_under HU6.out hb)
  have HK7 := Lib.hid (work_under HK6.out hb)
  have HV7 := Lib.hid (uses_under HV6.out hb)
  have HX7 := Lib.hid (work_under HX6.out hb)
  clear hb cA0 cA1 cA2 cB0 cB1 cB2
  have HS7 : Hid (Blk (w7.alloc (.cells #[.bool r0, .string r1, .string r2] 48)) w7.heap.size 48 #[.bool r0, .string r1, .string r2]) := Blk.new w7 _ _
  have hb := Nx_al w7 (.cells #[.bool r0, .string r1, .string r2] 48)
  have HU7a := Lib.hid (uses_under HU7.out hb)
  have HK7a := Lib.hid (work_under HK7.out hb)
  have HV7a := Lib.hid (uses_under HV7.out hb)
  have HX7a := Lib.hid (work_under HX7.out hb)
  have HW7a := Lib.hid (HW7.out.alloc HW7.out.size (.cells #[.bool r0, .string r1, .string r2] 48))
  clear hb
  have cS0 := HS7.out.cell (i := 0) rfl
  have cS1 := HS7.out.cell (i := 1) rfl
  have cS2 := HS7.out.cell (i := 2) rfl
  go_wp2_with (fail)
  refine (H2.out _ HW7a.out).mono ?_
  rintro e w8 ⟨u3, k3, l3, f3, rfl, hb⟩
  have HW8 := Lib.hid (HW7a.out.trans (hb.mono HW7a.out.size))
  clear hb cS0 cS1 cS2
  go_wp2
  go_ret
  exact ⟨rfl, HW8.out⟩
end Go.Proofs.YtekjphkabfiheaaGreat
