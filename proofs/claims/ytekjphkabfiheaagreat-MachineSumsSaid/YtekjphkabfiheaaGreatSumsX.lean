/- The law MachineSums: the walk of its loops, and all joined. Conditions: those that each theorem states. -/
import Derived.Test.YtekjphkabfiheaaGreatSumsW
set_option linter.unusedVariables false
set_option linter.unusedSimpArgs false
/- MachineSums: the walk where all three runs end well. PRINTED BY wip/gen_sums2.py -/
namespace Go.Proofs.YtekjphkabfiheaaGreat
open Go.RowKit BF
theorem row_at {α : Type} {At : World → Nat → Nat → α → Prop} {z : Nat} {w : World} {p : Option Addr} {n c : Nat} {us : List α} (h : RowIs At z w (.slice p n c) us) (hl : us.length = n) {k : Nat} (hk : k < n) :
    ∃ g o x, p = some ⟨g, o, none⟩ ∧ us[k]? = some x ∧ At w g (o + k * z) x ∧ g < w.heap.size := by
  rcases h with ⟨q, d, he, rfl⟩ | ⟨g, o, d, he, h1, h2, h3, h4⟩
  · simp at hl; omega
  · injection he with e1 e2 e3
    exact ⟨g, o, us[k], e1, List.getElem?_eq_getElem (by omega), h4 k (by omega), h2⟩
/-- what a round of the first loop reads -/
structure SumAt (W : World) (g1 o1 g2 o2 g3 o3 : Nat) (x y z : UseV) : Prop where
  u : UseAt W g1 o1 x
  v : UseAt W g2 o2 y
  s : UseAt W g3 o3 z
  l1 : g1 < W.heap.size
  l2 : g2 < W.heap.size
  l3 : g3 < W.heap.size
theorem SumAt.under {W W' : World} {B g1 o1 g2 o2 g3 o3 : Nat} {x y z : UseV} (h : SumAt W g1 o1 g2 o2 g3 o3 x y z) (hb : Below B W W') (hB : W.heap.size = B) : SumAt W' g1 o1 g2 o2 g3 o3 x y z := by
  subst hB
  exact ⟨h.1.under hb h.4, h.2.under hb h.5, h.3.under hb h.6, Nat.lt_of_lt_of_le h.4 hb.size, Nat.lt_of_lt_of_le h.5 hb.size, Nat.lt_of_lt_of_le h.6 hb.size⟩
theorem SumAt.drew {W : World} {g1 o1 g2 o2 g3 o3 : Nat} {x y z : UseV} (h : SumAt W g1 o1 g2 o2 g3 o3 x y z) : SumAt W.drew g1 o1 g2 o2 g3 o3 x y z := h.under (Below.refl _ _).drew rfl
theorem SumAt.alloc {W : World} {g1 o1 g2 o2 g3 o3 : Nat} {x y z : UseV} (h : SumAt W g1 o1 g2 o2 g3 o3 x y z) (ob : Obj) : SumAt (W.alloc ob) g1 o1 g2 o2 g3 o3 x y z := h.under (Nx_al W ob) rfl
theorem SumAt.six {W : World} {g1 o1 g2 o2 g3 o3 : Nat} {i j l : Int} {a0 b0 s0 : Bool} {a1 a2 b1 b2 s1 s2 : ByteArray} {f1 t1 f2 t2 f3 t3 : Bool} (h : SumAt W g1 o1 g2 o2 g3 o3 ⟨i, ⟨a0, a1, a2⟩, f1, t1⟩ ⟨j, ⟨b0, b1, b2⟩, f2, t2⟩ ⟨l, ⟨s0, s1, s2⟩, f3, t3⟩) :
    W.cell? ⟨g1, o1 + 1, none⟩ = some (.bool a0) ∧ W.cell? ⟨g1, o1 + 2, none⟩ = some (.string a1) ∧ W.cell? ⟨g1, o1 + 3, none⟩ = some (.string a2) ∧ W.cell? ⟨g2, o2 + 1, none⟩ = some (.bool b0) ∧ W.cell? ⟨g2, o2 + 2, none⟩ = some (.string b1) ∧ W.cell? ⟨g2, o2 + 3, none⟩ = some (.string b2) :=
  ⟨h.1.2.1, h.1.2.2.1, h.1.2.2.2.1, h.2.2.1, h.2.2.2.1, h.2.2.2.2.1⟩
theorem sum_fill {w W : World} {g g1 o1 g2 o2 g3 o3 : Nat} {x y z : UseV} {a b c : Value} {T : TypeId} (hg : Blk W g T #[a, b, c]) (h : SumAt W g1 o1 g2 o2 g3 o3 x y z) (v0 v1 v2 : Value) {B : Nat} (hB : Below B w W) (hBg : B ≤ g) (hl1 : g1 < g) (hl2 : g2 < g) (hl3 : g3 < g) :
    Hid (Blk (((W.setCell ⟨g, 0, none⟩ v0).setCell ⟨g, 1, none⟩ v1).setCell ⟨g, 2, none⟩ v2) g T #[v0, v1, v2]) ∧ Hid (SumAt (((W.setCell ⟨g, 0, none⟩ v0).setCell ⟨g, 1, none⟩ v1).setCell ⟨g, 2, none⟩ v2) g1 o1 g2 o2 g3 o3 x y z) ∧ Hid (Below B w (((W.setCell ⟨g, 0, none⟩ v0).setCell ⟨g, 1, none⟩ v1).setCell ⟨g, 2, none⟩ v2)) := by
  have q0 : Below g W (W.setCell ⟨g, 0, none⟩ v0) := (Below.refl _ W).setCell (Nat.le_refl g) v0
  have q1 : Below g W ((W.setCell ⟨g, 0, none⟩ v0).setCell ⟨g, 1, none⟩ v1) := q0.setCell (Nat.le_refl g) v1
  have hb : Below g W (((W.setCell ⟨g, 0, none⟩ v0).setCell ⟨g, 1, none⟩ v1).setCell ⟨g, 2, none⟩ v2) := q1.setCell (Nat.le_refl g) v2
  exact ⟨((hg.set (i := 0) v0).set (i := 1) v1).set (i := 2) v2, ⟨h.1.under hb hl1, h.2.under hb hl2, h.3.under hb hl3, Nat.lt_of_lt_of_le h.4 hb.size, Nat.lt_of_lt_of_le h.5 hb.size, Nat.lt_of_lt_of_le h.6 hb.size⟩, ((hB.setCell hBg _).setCell hBg _).setCell hBg _⟩
set_option maxRecDepth 100000 in
set_option maxHeartbeats 4000000 in
theorem sums_ok (nu nk : Nat) (us vs ys : List UseV) (ws xs zs : List WorkV) (HLu : Hid (us.length = nu)) (HLv : Hid (vs.length = nu)) (HLy : Hid (ys.length = nu)) (HLw : Hid (ws.length = nk)) (HLx : Hid (xs.length = nk)) (HLz : Hid (zs.length = nk))
    (HSum : Hid (∀ (k : Nat) (x y z : UseV), us[k]? = some x → vs[k]? = some y → ys[k]? = some z → ∃ (i : Int) (a b s : RV) (f t f' t' : Bool), x = ⟨i, a, f, t⟩ ∧ y = ⟨i, b, f', t'⟩ ∧ z = ⟨i, s, f, t⟩ ∧ ∀ w : World, Calls Tryz.prog 24 #[a.v, b.v] w fun e w' => e = .returned (.tuple #[s.v, .int .i64 0]) ∧ Below w.heap.size w w'))
    (HWrk : Hid (∀ (k : Nat) (x y z : WorkV), ws[k]? = some x → xs[k]? = some y → zs[k]? = some z → ∃ i i' a b s : Int, x = ⟨i, a⟩ ∧ y = ⟨i', b⟩ ∧ z = ⟨i, s⟩ ∧ s ≤ a + b ∧ a ≤ s ∧ b ≤ s ∧ IntKind.i64.wrap (a + b) = a + b)) (hnu : nu ≤ maxLen) (hnk : nk ≤ maxLen) (lead : Int) (n m : Nat) (hn : n ≤ 60) (hm : m ≤ 12) (p q : Option Addr) (cap capq : Nat) (n0 : Bool) (n1 n2 : ByteArray) (m0 : Bool) (m1 m2 : ByteArray) (w : World) (r0 : Bool) (r1 r2 : ByteArray)
    (HS : Hid (∀ w : World, Calls Tryz.prog 28 #[] w fun e w' => e = .returned (.bool true) ∧ Below w.heap.size w w'))
    (HF : Hid (∀ w', Below w.heap.size w w' → Calls Tryz.prog 29 #[.slice q n capq] w' fun e w'' => e = .returned (.bool true) ∧ Below w'.heap.size w' w''))
    (HR1 : Hid (∀ w : World, Calls Tryz.prog 30 #[.agg #[.bool n0, .string n1, .string n2]] w fun e w' => e = .returned (.bool true) ∧ Below w.heap.size w w'))
    (HR2 : Hid (∀ w : World, Calls Tryz.prog 30 #[.agg #[.bool m0, .string m1, .string m2]] w fun e w' => e = .returned (.bool true) ∧ Below w.heap.size w w'))
    (H0 : Hid (∀ w', Below w.heap.size w w' → Calls Tryz.prog 31 #[.slice q n capq, .slice p m cap, .agg #[.bool n0, .string n1, .string n2], .int .i64 (n : Int)] w' (RunS us ws nu nk lead w')))
    (H1 : Hid (∀ w', Below w.heap.size w w' → Calls Tryz.prog 31 #[.slice q n capq, .slice p m cap, .agg #[.bool m0, .string m1, .string m2], .int .i64 (n : Int)] w' (RunS vs xs nu nk lead w')))
    (HP : Hid (∀ w : World, Calls Tryz.prog 24 #[.agg #[.bool n0, .string n1, .string n2], .agg #[.bool m0, .string m1, .string m2]] w fun e w' => e = .returned (.tuple #[.agg #[.bool r0, .string r1, .string r2], .int .i64 0]) ∧ Below w.heap.size w w'))
    (H2 : Hid (∀ w', Below w.heap.size w w' → Calls Tryz.prog 31 #[.slice q n capq, .slice p m cap, .agg #[.bool r0, .string r1, .string r2], .int .i64 (n : Int)] w' (RunS ys zs nu nk lead w'))) :
    Calls Tryz.prog 10 #[.slice q n capq, .slice p m cap, .agg #[.bool n0, .string n1, .string n2], .agg #[.bool m0, .string m1, .string m2]] w fun e w' => e = .returned (.bool true) ∧ Below w.heap.size w w' := by
  unfold maxLen at hnu hnk
  have hm12 : ¬ (12 : Int) < (m : Int) := by omega
  have hll : (lead != lead) = false := by simp
  have hnn : ((nu : Int) != (nu : Int)) = false := by simp
  have hkk : ((nk : Int) != (nk : Int)) = false := by simp
  obtain ⟨W, hW, HA0, HB0, HW0⟩ := sum_boxes w #[.bool n0, .string n1, .string n2] #[.bool m0, .string m1, .string m2]
  go_enter Tryz.func10, Tryz.ntmps10
  go_wp2_with (fail)
  clear hW
  refine (HS.out _).mono ?_
  rintro e w1 ⟨rfl, hb⟩
  have HA1 := Lib.hid (HA0.out.under hb)
  have HB1 := Lib.hid (HB0.out.under hb)
  have HW1 := Lib.hid (HW0.out.trans (hb.mono HW0.out.size))
  clear hb
  go_wp2_with (fail)
  refine (HF.out _ HW1.out).mono ?_
  rintro e w2 ⟨rfl, hb⟩
  have HA2 := Lib.hid (HA1.out.under hb)
  have HB2 := Lib.hid (HB1.out.under hb)
  have HW2 := Lib.hid (HW1.out.trans (hb.mono HW1.out.size))
  clear hb
  have cA0 := HA2.out.cell (i := 0) rfl
  have cA1 := HA2.out.cell (i := 1) rfl
  have cA2 := HA2.out.cell (i := 2) rfl
  go_wp2_with (fail)
  refine (HR1.out _).mono ?_
  rintro e w3 ⟨rfl, hb⟩
  have HA3 := Lib.hid (HA2.out.under hb)
  have HB3 := Lib.hid (HB2.out.under hb)
  have HW3 := Lib.hid (HW2.out.trans (hb.mono HW2.out.size))
  clear hb cA0 cA1 cA2
  have cB0 := HB3.out.cell (i := 0) rfl
  have cB1 := HB3.out.cell (i := 1) rfl
  have cB2 := HB3.out.cell (i := 2) rfl
  go_wp2_with (fail)
  refine (HR2.out _).mono ?_
  rintro e w4 ⟨rfl, hb⟩
  have HA4 := Lib.hid (HA3.out.under hb)
  have HB4 := Lib.hid (HB3.out.under hb)
  have HW4 := Lib.hid (HW3.out.trans (hb.mono HW3.out.size))
  clear hb cB0 cB1 cB2
  have cA0 := HA4.out.cell (i := 0) rfl
  have cA1 := HA4.out.cell (i := 1) rfl
  have cA2 := HA4.out.cell (i := 2) rfl
  go_wp2_with (fail)
  refine (H0.out _ HW4.out).mono ?_
  rintro e w5 ⟨p1, c1, p2, c2, f1, rfl, hu, hk, hb⟩
  have HA5 := Lib.hid (HA4.out.under hb)
  have HB5 := Lib.hid (HB4.out.under hb)
  have HW5 := Lib.hid (HW4.out.trans (hb.mono HW4.out.size))
  have HU5 := Lib.hid hu
  have HK5 := Lib.hid hk
  clear hb hu hk cA0 cA1 cA2
  have cB0 := HB5.out.cell (i := 0) rfl
  have cB1 := HB5.out.cell (i := 1) rfl
  have cB2 := HB5.out.cell (i := 2) rfl
  go_wp2_with (fail)
  refine (H1.out _ HW5.out).mono ?_
  rintro e w6 ⟨p3, c3, p4, c4, f2, rfl, hu, hk, hb⟩
  have HA6 := Lib.hid (HA5.out.under hb)
  have HB6 := Lib.hid (HB5.out.under hb)
  have HW6 := Lib.hid (HW5.out.trans (hb.mono HW5.out.size))
  have HU6 := Lib.hid (uses_under HU5.out hb)
  have HK6 := Lib.hid (work_under HK5.out hb)
  have HV6 := Lib.hid hu
  have HX6 := Lib.hid hk
  clear hb hu hk cB0 cB1 cB2
  have cA0 := HA6.out.cell (i := 0) rfl
  have cA1 := HA6.out.cell (i := 1) rfl
  have cA2 := HA6.out.cell (i := 2) rfl
  have cB0 := HB6.out.cell (i := 0) rfl
  have cB1 := HB6.out.cell (i := 1) rfl
  have cB2 := HB6.out.cell (i := 2) rfl
  go_wp2_with (fail)
  refine (HP.out _).mono ?_
  rintro e w7 ⟨rfl, hb⟩
  have HA7 := Lib.hid (HA6.out.under hb)
  have HB7 := Lib.hid (HB6.out.under hb)
  have HW7 := Lib.hid (HW6.out.trans (hb.mono HW6.out.size))
  have HU7 := Lib.hid (uses_under HU6.out hb)
  have HK7 := Lib.hid (work_under HK6.out hb)
  have HV7 := Lib.hid (uses_under HV6.out hb)
  have HX7 := Lib.hid (work_under HX6.out hb)
  clear hb cA0 cA1 cA2 cB0 cB1 cB2
  have HS7 : Hid (Blk (w7.alloc (.cells #[.bool r0, .string r1, .string r2] 48)) w7.heap.size 48 #[.bool r0, .string r1, .string r2]) := Blk.new w7 _ _
  have hb := Nx_al w7 (.cells #[.bool r0, .string r1, .string r2] 48)
  have HU7a := Lib.hid (uses_under HU7.out hb)
  have HK7a := Lib.hid (work_under HK7.out hb)
  have HV7a := Lib.hid (uses_under HV7.out hb)
  have HX7a := Lib.hid (work_under HX7.out hb)
  have HW7a := Lib.hid (HW7.out.alloc HW7.out.size (.cells #[.bool r0, .string r1, .string r2] 48))
  clear hb
  have cS0 := HS7.out.cell (i := 0) rfl
  have cS1 := HS7.out.cell (i := 1) rfl
  have cS2 := HS7.out.cell (i := 2) rfl
  go_wp2_with (fail)
  refine (H2.out _ HW7a.out).mono ?_
  rintro e w8 ⟨p5, c5, p6, c6, f3, rfl, hu, hk, hb⟩
  have HU := Lib.hid (uses_under HU7a.out hb)
  have HK := Lib.hid (work_under HK7a.out hb)
  have HV := Lib.hid (uses_under HV7a.out hb)
  have HX := Lib.hid (work_under HX7a.out hb)
  have HY := Lib.hid hu
  have HZ := Lib.hid hk
  have HW := Lib.hid (HW7a.out.trans (hb.mono HW7a.out.size))
  clear hb hu hk cS0 cS1 cS2
  go_wp2_with (fail)
  go_loopw [142] (fun i wr => ∃ k : Nat, k ≤ nu ∧ i = .int .i64 (k : Int) ∧ Hid (Below w8.heap.size w8 wr)) (fun i _ => nu - (intOf i).toNat)
  case atStart => exact ⟨0, Nat.zero_le _, rfl, Below.refl _ _⟩
  case round =>
    obtain ⟨k, hk, rfl, HWr⟩ := hrel
    by_cases hkn : k < nu
    · obtain ⟨g1, o1, x, rfl, hx, h1, l1⟩ := row_at (uses_under HU.out HWr.out) HLu.out hkn
      obtain ⟨g2, o2, y, rfl, hy, h2, l2⟩ := row_at (uses_under HV.out HWr.out) HLv.out hkn
      obtain ⟨g3, o3, z, rfl, hz, h3, l3⟩ := row_at (uses_under HY.out HWr.out) HLy.out hkn
      obtain ⟨i, ⟨a0, a1, a2⟩, ⟨b0, b1, b2⟩, ⟨s0, s1, s2⟩, f, t, f', t', rfl, rfl, rfl, hadd⟩ := HSum.out k x y z hx hy hz
      have HD : Hid (∀ w : World, Calls Tryz.prog 24 #[.agg #[.bool a0, .string a1, .string a2], .agg #[.bool b0, .string b1, .string b2]] w fun e w' => e = .returned (.tuple #[.agg #[.bool s0, .string s1, .string s2], .int .i64 0]) ∧ Below w.heap.size w w') := hadd
      have HA := Lib.hid (SumAt.mk h1 h2 h3 l1 l2 l3)
      clear h1 h2 h3 l1 l2 l3 hx hy hz hadd
      have hki : (k : Int) < (nu : Int) := by omega
      go_wp2_with (fail)
      refine wp_region_held_drew (S := fun w' => w'.cell? ⟨g1, o1 + k * 6 + 1, none⟩ = some (.bool a0) ∧ w'.cell? ⟨g1, o1 + k * 6 + 2, none⟩ = some (.string a1) ∧ w'.cell? ⟨g1, o1 + k * 6 + 3, none⟩ = some (.string a2) ∧ w'.cell? ⟨g2, o2 + k * 6 + 1, none⟩ = some (.bool b0) ∧ w'.cell? ⟨g2, o2 + k * 6 + 2, none⟩ = some (.string b1) ∧ w'.cell? ⟨g2, o2 + k * 6 + 3, none⟩ = some (.string b2)) (by kernel_rfl) HA.out.drew.six (fun hS0 => ?_)
      refine wpAnyH_take (i := 0) (v := ?_) rfl (by kernel_rfl) (by kernel_rfl) (by kernel_rfl) (fun _ _ _ h => h) (Or.inl ⟨by rfl, ?_⟩) (by assumption) ?_
      rotate_left
      · intro w hSw; (try dsimp only at hSw); go_simp; try with_reducible rfl
      try simp only [Act.put, List.setIfInBounds_toArray, List.set_cons_zero, List.set_cons_succ]
      refine wpAnyH_take (i := 1) (v := ?_) rfl (by kernel_rfl) (by kernel_rfl) (by kernel_rfl) (fun _ _ _ h => h) (Or.inl ⟨by rfl, ?_⟩) (by assumption) ?_
      rotate_left
      · intro w hSw; (try dsimp only at hSw); go_simp; try with_reducible rfl
      try simp only [Act.put, List.setIfInBounds_toArray, List.set_cons_zero, List.set_cons_succ]
      refine wpAnyH_take (i := 2) (v := ?_) rfl (by kernel_rfl) (by kernel_rfl) (by kernel_rfl) (fun _ _ _ h => h) (Or.inl ⟨by rfl, ?_⟩) (by assumption) ?_
      rotate_left
      · intro w hSw; (try dsimp only at hSw); go_simp; try with_reducible rfl
      try simp only [Act.put, List.setIfInBounds_toArray, List.set_cons_zero, List.set_cons_succ]
      refine wpAnyH_take (i := 3) (v := ?_) rfl (by kernel_rfl) (by kernel_rfl) (by kernel_rfl) (fun _ _ _ h => h) (Or.inl ⟨by rfl, ?_⟩) (by assumption) ?_
      rotate_left
      · intro w hSw; (try dsimp only at hSw); go_simp; try with_reducible rfl
      try simp only [Act.put, List.setIfInBounds_toArray, List.set_cons_zero, List.set_cons_succ]
      refine wpAnyH_take (i := 4) (v := ?_) rfl (by kernel_rfl) (by kernel_rfl) (by kernel_rfl) (fun _ _ _ h => h) (Or.inl ⟨by rfl, ?_⟩) (by assumption) ?_
      rotate_left
      · intro w hSw; (try dsimp only at hSw); go_simp; try with_reducible rfl
      try simp only [Act.put, List.setIfInBounds_toArray, List.set_cons_zero, List.set_cons_succ]
      refine wpAnyH_take (i := 5) (v := ?_) rfl (by kernel_rfl) (by kernel_rfl) (by kernel_rfl) (fun _ _ _ h => h) (Or.inl ⟨by rfl, ?_⟩) (by assumption) ?_
      rotate_left
      · intro w hSw; (try dsimp only at hSw); go_simp; try with_reducible rfl
      try simp only [Act.put, List.setIfInBounds_toArray, List.set_cons_zero, List.set_cons_succ]
      refine wpAnyH_take (i := 6) (v := ?_) rfl (by kernel_rfl) (by kernel_rfl) (by kernel_rfl) (fun _ _ _ h => h) (Or.inl ⟨by rfl, ?_⟩) (by assumption) ?_
      rotate_left
      · intro w hSw; (try dsimp only at hSw); go_simp; try with_reducible rfl
      try simp only [Act.put, List.setIfInBounds_toArray, List.set_cons_zero, List.set_cons_succ]
      refine wpAnyH_take (i := 7) (v := ?_) rfl (by kernel_rfl) (by kernel_rfl) (by kernel_rfl) (fun _ _ _ h => h) (Or.inl ⟨by rfl, ?_⟩) (by assumption) ?_
      rotate_left
      · intro w hSw; (try dsimp only at hSw); go_simp; try with_reducible rfl
      try simp only [Act.put, List.setIfInBounds_toArray, List.set_cons_zero, List.set_cons_succ]
      refine wpAnyH_take (i := 8) (v := ?_) rfl (by kernel_rfl) (by kernel_rfl) (by kernel_rfl) (fun _ _ _ h => h) (Or.inl ⟨by rfl, ?_⟩) (by assumption) ?_
      rotate_left
      · intro w hSw; (try dsimp only at hSw); go_simp; try with_reducible rfl
      try simp only [Act.put, List.setIfInBounds_toArray, List.set_cons_zero, List.set_cons_succ]
      refine wpAnyH_take (i := 9) (v := ?_) rfl (by kernel_rfl) (by kernel_rfl) (by kernel_rfl) (fun _ _ _ h => h) (Or.inl ⟨by rfl, ?_⟩) (by assumption) ?_
      rotate_left
      · intro w hSw; (try dsimp only at hSw); go_simp; try with_reducible rfl
      try simp only [Act.put, List.setIfInBounds_toArray, List.set_cons_zero, List.set_cons_succ]
      refine wpAnyH_ready (rs := [10, 14]) (by kernel_rfl) (by simp) ?_
      refine AllReadyH.cons rfl (fun K hK => ?_) ?_
      · go_simp
        refine (HD.out _).mono ?_
        rintro e w1 ⟨rfl, hb⟩
        have HA1 := Lib.hid (HA.out.drew.under hb (by first | rfl | simp))
        have HW1 := Lib.hid (HWr.out.drew.trans (hb.mono HWr.out.drew.size))
        clear hb
        refine hK _ _ HA1.out.six (fun hS2 => ?_)
        clear hK K
        refine wpAnyH_take (i := 11) (v := ?_) rfl (by kernel_rfl) (by kernel_rfl) (by kernel_rfl) (fun _ _ _ h => h) (Or.inl ⟨by rfl, ?_⟩) (by assumption) ?_
        rotate_left
        · intro w hSw; (try dsimp only at hSw); go_simp; try with_reducible rfl
        try simp only [Act.put, List.setIfInBounds_toArray, List.set_cons_zero, List.set_cons_succ]
        refine wpAnyH_take (i := 12) (v := ?_) rfl (by kernel_rfl) (by kernel_rfl) (by kernel_rfl) (fun _ _ _ h => h) (Or.inl ⟨by rfl, ?_⟩) (by assumption) ?_
        rotate_left
        · intro w hSw; (try dsimp only at hSw); go_simp; try with_reducible rfl
        try simp only [Act.put, List.setIfInBounds_toArray, List.set_cons_zero, List.set_cons_succ]
        refine wpAnyH_take (i := 13) (v := ?_) rfl (by kernel_rfl) (by kernel_rfl) (by kernel_rfl) (fun _ _ _ h => h) (Or.inl ⟨by rfl, ?_⟩) (by assumption) ?_
        rotate_left
        · intro w hSw; (try dsimp only at hSw); go_simp; try with_reducible rfl
        try simp only [Act.put, List.setIfInBounds_toArray, List.set_cons_zero, List.set_cons_succ]
        refine wpAnyH_ready (rs := [14]) (by kernel_rfl) (by simp) ?_
        refine AllReadyH.cons rfl (fun K hK => ?_) ?_
        · go_simp
          have HG2 : Hid (Blk (w1.alloc (.cells #[.bool false, .string { data := #[] }, .string { data := #[] }] 48)) w1.heap.size 48 #[.bool false, .string { data := #[] }, .string { data := #[] }]) := Blk.new w1 _ _
          have HA2 := Lib.hid (HA1.out.alloc (.cells #[.bool false, .string { data := #[] }, .string { data := #[] }] 48))
          refine hK _ _ HA2.out.six (fun hS3 => ?_)
          clear hK K
          have r0 := HG2.out.cell (i := 0) rfl
          have r1 := HG2.out.cell (i := 1) rfl
          have r2 := HG2.out.cell (i := 2) rfl
          have fr := HG2.out.frozen
          refine wpAnyH_ready (rs := [15]) (by kernel_rfl) (by simp) ?_
          refine AllReadyH.cons rfl (fun K hK => ?_) ?_
          · go_simp
            have HG3 : Hid (Blk (w1.alloc (.cells #[.bool s0, .string s1, .string s2] 48)) w1.heap.size 48 #[.bool s0, .string s1, .string s2]) := Blk.new w1 _ _
            have HA3 := Lib.hid (HA1.out.alloc (.cells #[.bool s0, .string s1, .string s2] 48))
            have HW3 := Lib.hid (HW1.out.alloc HW1.out.size (.cells #[.bool s0, .string s1, .string s2] 48))
            refine hK _ _ HA3.out.six (fun hS4 => ?_)
            clear hK K
            refine wpAnyH_take (i := 16) (v := ?_) rfl (by kernel_rfl) (by kernel_rfl) (by kernel_rfl) (fun _ _ _ h => h) (Or.inl ⟨by rfl, ?_⟩) (by assumption) ?_
            rotate_left
            · intro w hSw; (try dsimp only at hSw); go_simp; try with_reducible rfl
            try simp only [Act.put, List.setIfInBounds_toArray, List.set_cons_zero, List.set_cons_succ]
            refine wpAnyH_done (by kernel_rfl) ?_ _
            simp only [List.getElem_toArray, List.getElem_cons_succ, List.getElem_cons_zero, List.set_cons_succ, List.set_cons_zero]
            generalize w1.alloc (.cells #[.bool s0, .string s1, .string s2] 48) = W3 at *
            have d0 := HG3.out.cell (i := 0) rfl
            have d1 := HG3.out.cell (i := 1) rfl
            have d2 := HG3.out.cell (i := 2) rfl
            obtain ⟨u0, u1, u2, u3, u4, u5⟩ := HA3.out.u
            obtain ⟨v0, v1, v2, v3, v4, v5⟩ := HA3.out.v
            obtain ⟨y0, y1, y2, y3, y4, y5⟩ := HA3.out.s
            dsimp only at u0 u1 u2 u3 u4 u5 v0 v1 v2 v3 v4 v5 y0 y1 y2 y3 y4 y5
            clear u1 u2 u3 v1 v2 v3 v4 v5
            go_wp2_with (fail)
            go_quiet (fail)
            go_wp2_with (fail)
            go_roundw
            case rel => exact ⟨k + 1, by omega, by go_num, Lib.hid (by repeat (first | exact HW3.out | refine below_drewN ?_ _ | refine Below.drew ?_))⟩
            case measure => simp [intOf]; omega
          exact AllReadyH.nil
        exact AllReadyH.nil
      refine AllReadyH.cons rfl (fun K hK => ?_) ?_
      · go_simp
        have HG0 : Hid (Blk (wr.drew.alloc (.cells #[.bool false, .string { data := #[] }, .string { data := #[] }] 48)) wr.heap.size 48 #[.bool false, .string { data := #[] }, .string { data := #[] }]) := Blk.new wr.drew _ _
        have HAb := Lib.hid (HA.out.drew.alloc (.cells #[.bool false, .string { data := #[] }, .string { data := #[] }] 48))
        have HWb := Lib.hid (HWr.out.drew.alloc HWr.out.drew.size (.cells #[.bool false, .string { data := #[] }, .string { data := #[] }] 48))
        refine hK _ _ HAb.out.six (fun hS2 => ?_)
        clear hK K
        refine wpAnyH_ready (rs := [10]) (by kernel_rfl) (by simp) ?_
        refine AllReadyH.cons rfl (fun K hK => ?_) ?_
        · go_simp
          refine (HD.out _).mono ?_
          rintro e w1 ⟨rfl, hb⟩
          have HG2 := Lib.hid (HG0.out.under hb)
          have HA2 := Lib.hid (HAb.out.under hb (by first | rfl | simp))
          have HW2 := Lib.hid (HWb.out.trans (hb.mono HWb.out.size))
          clear hb
          refine hK _ _ HA2.out.six (fun hS3 => ?_)
          clear hK K
          have r0 := HG2.out.cell (i := 0) rfl
          have r1 := HG2.out.cell (i := 1) rfl
          have r2 := HG2.out.cell (i := 2) rfl
          have fr := HG2.out.frozen
          refine wpAnyH_take (i := 11) (v := ?_) rfl (by kernel_rfl) (by kernel_rfl) (by kernel_rfl) (fun _ _ _ h => h) (Or.inl ⟨by rfl, ?_⟩) (by assumption) ?_
          rotate_left
          · intro w hSw; (try dsimp only at hSw); go_simp; try with_reducible rfl
          try simp only [Act.put, List.setIfInBounds_toArray, List.set_cons_zero, List.set_cons_succ]
          refine wpAnyH_take (i := 12) (v := ?_) rfl (by kernel_rfl) (by kernel_rfl) (by kernel_rfl) (fun _ _ _ h => h) (Or.inl ⟨by rfl, ?_⟩) (by assumption) ?_
          rotate_left
          · intro w hSw; (try dsimp only at hSw); go_simp; try with_reducible rfl
          try simp only [Act.put, List.setIfInBounds_toArray, List.set_cons_zero, List.set_cons_succ]
          refine wpAnyH_take (i := 13) (v := ?_) rfl (by kernel_rfl) (by kernel_rfl) (by kernel_rfl) (fun _ _ _ h => h) (Or.inl ⟨by rfl, ?_⟩) (by assumption) ?_
          rotate_left
          · intro w hSw; (try dsimp only at hSw); go_simp; try with_reducible rfl
          try simp only [Act.put, List.setIfInBounds_toArray, List.set_cons_zero, List.set_cons_succ]
          refine wpAnyH_ready (rs := [15]) (by kernel_rfl) (by simp) ?_
          refine AllReadyH.cons rfl (fun K hK => ?_) ?_
          · go_simp
            obtain ⟨HG3, HA3, HW3⟩ := sum_fill HG2.out HA2.out (.bool s0) (.string s1) (.string s2) HW2.out HWr.out.size HA.out.l1 HA.out.l2 HA.out.l3
            refine hK _ _ HA3.out.six (fun hS4 => ?_)
            clear hK K
            refine wpAnyH_take (i := 16) (v := ?_) rfl (by kernel_rfl) (by kernel_rfl) (by kernel_rfl) (fun _ _ _ h => h) (Or.inl ⟨by rfl, ?_⟩) (by assumption) ?_
            rotate_left
            · intro w hSw; (try dsimp only at hSw); go_simp; try with_reducible rfl
            try simp only [Act.put, List.setIfInBounds_toArray, List.set_cons_zero, List.set_cons_succ]
            refine wpAnyH_done (by kernel_rfl) ?_ _
            simp only [List.getElem_toArray, List.getElem_cons_succ, List.getElem_cons_zero, List.set_cons_succ, List.set_cons_zero]
            generalize ((w1.setCell ⟨wr.heap.size, 0, none⟩ (.bool s0)).setCell ⟨wr.heap.size, 1, none⟩ (.string s1)).setCell ⟨wr.heap.size, 2, none⟩ (.string s2) = W3 at *
            have d0 := HG3.out.cell (i := 0) rfl
            have d1 := HG3.out.cell (i := 1) rfl
            have d2 := HG3.out.cell (i := 2) rfl
            obtain ⟨u0, u1, u2, u3, u4, u5⟩ := HA3.out.u
            obtain ⟨v0, v1, v2, v3, v4, v5⟩ := HA3.out.v
            obtain ⟨y0, y1, y2, y3, y4, y5⟩ := HA3.out.s
            dsimp only at u0 u1 u2 u3 u4 u5 v0 v1 v2 v3 v4 v5 y0 y1 y2 y3 y4 y5
            clear u1 u2 u3 v1 v2 v3 v4 v5
            go_wp2_with (fail)
            go_quiet (fail)
            go_wp2_with (fail)
            go_roundw
            case rel => exact ⟨k + 1, by omega, by go_num, Lib.hid (by repeat (first | exact HW3.out | refine below_drewN ?_ _ | refine Below.drew ?_))⟩
            case measure => simp [intOf]; omega
          exact AllReadyH.nil
        exact AllReadyH.nil
      exact AllReadyH.nil
    · obtain rfl : k = nu := by omega
      clear hk
      go_wp2_with (fail)
      go_loopw [201] (fun i wt => ∃ k : Nat, k ≤ nk ∧ i = .int .i64 (k : Int) ∧ Hid (Below w8.heap.size w8 wt)) (fun i _ => nk - (intOf i).toNat)
      case atStart => exact ⟨0, Nat.zero_le _, rfl, HWr⟩
      case round =>
        clear HWr
        obtain ⟨j, hj, rfl, HWt⟩ := hrel
        by_cases hjn : j < nk
        · obtain ⟨g1, o1, x, rfl, hx, h1, l1⟩ := row_at (work_under HK.out HWt.out) HLw.out hjn
          obtain ⟨g2, o2, y, rfl, hy, h2, l2⟩ := row_at (work_under HX.out HWt.out) HLx.out hjn
          obtain ⟨g3, o3, z, rfl, hz, h3, l3⟩ := row_at (work_under HZ.out HWt.out) HLz.out hjn
          obtain ⟨i, i', a, b, s, rfl, rfl, rfl, hs1, hs2, hs3, hwr⟩ := HWrk.out j x y z hx hy hz
          obtain ⟨x0, x1⟩ := h1
          obtain ⟨y0, y1⟩ := h2
          obtain ⟨z0, z1⟩ := h3
          dsimp only at x0 x1 y0 y1 z0 z1
          clear hx hy hz l1 l2 l3
          have hji : (j : Int) < (nk : Int) := by omega
          have q1 : ¬ a + b < s := by omega
          have q2 : ¬ s < max a b := by omega
          have q3 : ¬ s < a := by omega
          have q4 : ¬ s < b := by omega
          clear hs1 hs2 hs3
          go_wp2_with (fail)
          go_quiet (fail)
          go_wp2_with (fail)
          go_roundw
          case rel => exact ⟨j + 1, by omega, by go_num, Lib.hid (by repeat (first | exact HWt.out | refine below_drewN ?_ _ | refine Below.drew ?_))⟩
          case measure => simp [intOf]; omega
        · obtain rfl : j = nk := by omega
          go_wp2_with (fail)
          go_ret
          exact ⟨rfl, HW.out.trans (HWt.out.mono HW.out.size)⟩
end Go.Proofs.YtekjphkabfiheaaGreat
/- MachineSums: joined. -/
namespace Go.Proofs.YtekjphkabfiheaaGreat
open Go.RowKit Go.ChangeShapes Go.WideShapes Go.ChangeAt BF

/-- two runs of one program with the same choices -/
structure PairR (a b : MS) : Prop where
  at_ : a.at_ = b.at_
  done : a.done = b.done
  lead : a.lead = b.lead
  us : a.us.length = b.us.length
  ws : a.ws.length = b.ws.length
theorem pair_step {cs : List Int} {A B : RV} {x : Ins} {a b a' b' : MS} (h : PairR a b) (ha : stepM cs A x a = .ok a') (hb : stepM cs B x b = .ok b') : PairR a' b' := by
  obtain ⟨h1, h2, h3, h4, h5⟩ := h
  unfold stepM at ha hb
  by_cases c1 : x.op = 1
  · rw [if_pos c1] at ha hb
    cases ha; cases hb
    exact ⟨by simp only [h1], h2, h3, h4, h5⟩
  rw [if_neg c1] at ha hb
  by_cases c2 : x.op = 2
  · rw [if_pos c2] at ha hb
    cases ha; cases hb
    exact ⟨by simp only [h1], h2, h3, h4, h5⟩
  rw [if_neg c2] at ha hb
  by_cases c3 : x.op = 3
  · rw [if_pos c3] at ha hb
    split at ha
    case isFalse => cases ha
    split at hb
    case isFalse => cases hb
    cases ha; cases hb
    exact ⟨h1, h2, rfl, h4, h5⟩
  rw [if_neg c3] at ha hb
  by_cases c4 : x.op = 4 ∨ x.op = 5
  · rw [if_pos c4] at ha hb
    split at ha
    case isFalse => cases ha
    split at hb
    case isFalse => cases hb
    cases ha; cases hb
    exact ⟨h1, h2, h3, by simp [h4], h5⟩
  rw [if_neg c4] at ha hb
  by_cases c6 : x.op = 6
  · rw [if_pos c6] at ha hb
    split at ha
    case isFalse => cases ha
    split at hb
    case isFalse => cases hb
    split at ha
    case isTrue => cases ha
    split at hb
    case isTrue => cases hb
    cases ha; cases hb
    exact ⟨h1, h2, h3, h4, by simp [h5]⟩
  rw [if_neg c6] at ha hb
  by_cases c7 : x.op = 7
  · rw [if_pos c7] at ha hb
    cases ha; cases hb
    exact ⟨h1, rfl, h3, h4, h5⟩
  rw [if_neg c7] at ha
  cases ha
theorem pair_runM {xs : List Ins} {cs : List Int} {A B : RV} : ∀ (f : Nat) (a b a' b' : MS) (l m : Nat), PairR a b → runM xs cs A f a = .ok (a', l) → runM xs cs B f b = .ok (b', m) → PairR a' b' := by
  intro f
  induction f with
  | zero =>
    intro a b a' b' l m h ha hb
    cases hd : a.done with
    | false => rw [runM_zero hd] at ha; cases ha
    | true =>
      rw [runM_done _ hd] at ha
      rw [runM_done _ (h.done ▸ hd)] at hb
      cases ha; cases hb
      exact h
  | succ f ih =>
    intro a b a' b' l m h ha hb
    cases hd : a.done with
    | true =>
      rw [runM_done _ hd] at ha
      rw [runM_done _ (h.done ▸ hd)] at hb
      cases ha; cases hb
      exact h
    | false =>
      have hdb : b.done = false := h.done ▸ hd
      cases hxx : xs[a.at_.toNat]? with
      | none => simp only [runM, hd, Bool.false_eq_true, if_false, hxx] at ha; cases ha
      | some x =>
        rw [runM_some f hd hxx] at ha
        rw [runM_some f hdb (by rw [← h.at_]; exact hxx)] at hb
        cases sa : stepM cs A x { a with at_ := a.at_ + 1 } with
        | error e => rw [sa] at ha; cases ha
        | ok a1 =>
          rw [sa] at ha
          dsimp only at ha
          cases sb : stepM cs B x { b with at_ := b.at_ + 1 } with
          | error e => rw [sb] at hb; cases hb
          | ok b1 =>
            rw [sb] at hb
            dsimp only at hb
            have hq : PairR { a with at_ := a.at_ + 1 } { b with at_ := b.at_ + 1 } := ⟨by simp only [h.at_], h.done, h.lead, h.us, h.ws⟩
            exact ih a1 b1 a' b' l m (pair_step hq sa sb) ha hb
theorem pair_runV {xs : List Ins} {cs : List Int} {A B : RV} {fu : Int} {s t : MS} {l m : Nat} (ha : runV xs cs A fu = .ok (s, l)) (hb : runV xs cs B fu = .ok (t, m)) : PairR s t := by
  unfold runV at ha hb
  split at ha
  case isTrue => cases ha
  split at hb
  case isTrue => cases hb
  split at ha
  case isTrue => cases ha
  split at hb
  case isTrue => cases hb
  split at ha
  case isTrue => cases ha
  split at hb
  case isTrue => cases hb
  exact pair_runM _ _ _ _ _ _ _ ⟨rfl, rfl, rfl, rfl, rfl⟩ ha hb
theorem len_step {cs : List Int} {A : RV} {x : Ins} {a a' : MS} (ha : stepM cs A x a = .ok a') : a'.us.length + a'.ws.length ≤ a.us.length + a.ws.length + 1 := by
  unfold stepM at ha
  by_cases c1 : x.op = 1
  · rw [if_pos c1] at ha
    cases ha
    dsimp only
    omega
  rw [if_neg c1] at ha
  by_cases c2 : x.op = 2
  · rw [if_pos c2] at ha
    cases ha
    dsimp only
    omega
  rw [if_neg c2] at ha
  by_cases c3 : x.op = 3
  · rw [if_pos c3] at ha
    split at ha
    case isFalse => cases ha
    cases ha
    dsimp only
    omega
  rw [if_neg c3] at ha
  by_cases c4 : x.op = 4 ∨ x.op = 5
  · rw [if_pos c4] at ha
    split at ha
    case isFalse => cases ha
    cases ha
    dsimp only
    simp only [List.length_append, List.length_cons, List.length_nil]
    omega
  rw [if_neg c4] at ha
  by_cases c6 : x.op = 6
  · rw [if_pos c6] at ha
    split at ha
    case isFalse => cases ha
    split at ha
    case isTrue => cases ha
    cases ha
    dsimp only
    simp only [List.length_append, List.length_cons, List.length_nil]
    omega
  rw [if_neg c6] at ha
  by_cases c7 : x.op = 7
  · rw [if_pos c7] at ha
    cases ha
    dsimp only
    omega
  rw [if_neg c7] at ha
  cases ha
theorem len_runM {xs : List Ins} {cs : List Int} {A : RV} : ∀ (f : Nat) (a a' : MS) (l : Nat), runM xs cs A f a = .ok (a', l) → a'.us.length + a'.ws.length ≤ a.us.length + a.ws.length + f := by
  intro f
  induction f with
  | zero =>
    intro a a' l ha
    cases hd : a.done with
    | false => rw [runM_zero hd] at ha; cases ha
    | true =>
      rw [runM_done _ hd] at ha
      cases ha
      omega
  | succ f ih =>
    intro a a' l ha
    cases hd : a.done with
    | true =>
      rw [runM_done _ hd] at ha
      cases ha
      omega
    | false =>
      cases hxx : xs[a.at_.toNat]? with
      | none => simp only [runM, hd, Bool.false_eq_true, if_false, hxx] at ha; cases ha
      | some x =>
        rw [runM_some f hd hxx] at ha
        cases sa : stepM cs A x { a with at_ := a.at_ + 1 } with
        | error e => rw [sa] at ha; cases ha
        | ok a1 =>
          rw [sa] at ha
          dsimp only at ha
          have h1 := ih a1 a' l ha
          have h2 := len_step sa
          dsimp only at h2
          omega
theorem len_runV {xs : List Ins} {cs : List Int} {A : RV} {fu : Int} {s : MS} {l : Nat} (ha : runV xs cs A fu = .ok (s, l)) : s.us.length + s.ws.length ≤ fu.toNat := by
  unfold runV at ha
  split at ha
  case isTrue => cases ha
  split at ha
  case isTrue => cases ha
  split at ha
  case isTrue => cases ha
  have := len_runM _ _ _ _ ha
  simpa [startM] using this
theorem addR_fits (a b : RV) : (addR a b).1.fits := by
  unfold addR
  split
  · split
    · rename_i h; exact ofQ_fits (okQ_add h)
    · exact RV.fits_zero
  · exact RV.fits_zero
theorem runV_len (xs : List Ins) (cs : List Int) (am : RV) : (∃ e, (e != 0) = true ∧ runV xs cs am (xs.length : Int) = .error e) ∨ ∃ s l, runV xs cs am (xs.length : Int) = .ok (s, l) := by
  rcases fuel_law xs cs am with ⟨e, h0, _, h⟩ | ⟨s, k, _, hk, h⟩
  · exact .inl ⟨e, by simpa using h0, h 0⟩
  · exact .inr ⟨s, xs.length - k, by rw [h, if_neg (by omega)]⟩
theorem runE_of {w w' : World} {e : Ending} {k : Int} (h : RunPost w (.error k) e w') : RunE k w e w' := by
  obtain ⟨rfl, hb⟩ := h
  exact ⟨_, _, _, _, rfl, hb⟩
theorem runE_ok {w w' : World} {e : Ending} {s : MS} {l : Nat} (h : RunPost w (.ok (s, l)) e w') : RunE 0 w e w' := by
  obtain ⟨hb, u, k, rfl, _, _⟩ := h
  exact ⟨_, _, _, _, rfl, hb⟩
theorem runS_of {w w' : World} {e : Ending} {s : MS} {l : Nat} {nu nk : Nat} {lead : Int} (h : RunPost w (.ok (s, l)) e w') (h1 : s.us.length = nu) (h2 : s.ws.length = nk) (h3 : s.lead = lead) : RunS s.us s.ws nu nk lead w e w' := by
  subst h1; subst h2; subst h3
  obtain ⟨hb, u, k, rfl, hu, hk⟩ := h
  have hu := uses_row hu
  have hk := work_row hk
  obtain ⟨p, c, rfl, _⟩ := hu.len
  obtain ⟨q, d, rfl, _⟩ := hk.len
  exact ⟨p, c, q, d, _, rfl, hu, hk, hb⟩
theorem add_of {p q : Rat} (hp : szq 120 120 p) (hq : szq 120 120 q) : addR (ofQ p) (ofQ q) = (ofQ (p + q), 0) ∧ (ofQ p).fits ∧ (ofQ q).fits := by
  have kp : okQ p := ⟨small_lt.2 (Nat.lt_of_lt_of_le hp.1 (Nat.pow_le_pow_right (by decide) (by decide))), small_lt.2 (Nat.lt_of_lt_of_le hp.2 (Nat.pow_le_pow_right (by decide) (by decide)))⟩
  have kq : okQ q := ⟨small_lt.2 (Nat.lt_of_lt_of_le hq.1 (Nat.pow_le_pow_right (by decide) (by decide))), small_lt.2 (Nat.lt_of_lt_of_le hq.2 (Nat.pow_le_pow_right (by decide) (by decide)))⟩
  refine ⟨?_, ofQ_fits kp, ofQ_fits kq⟩
  unfold addR
  rw [ofQ_ok kp, ofQ_ok kq, ofQ_q, ofQ_q, if_pos (show (true && true) = true from rfl), if_pos (addFits_of hp hq 240 (by decide) (by decide) (by decide) (by decide))]
theorem sums_walk (HS : SaneHolds) (xs : List Ins) (cs : List Int) (am bm : RV) (cv sv : Value) (w : World) (hx : CodeIs w cv xs) (hf : ∀ x ∈ xs, x.r.fits) (hl : xs.length ≤ maxLen) (hs : IntsIs w sv cs) (hsl : cs.length ≤ maxLen) (ha : am.fits) (hbm : bm.fits) :
    Calls Tryz.prog 10 #[cv, sv, am.v, bm.v] w fun e w' => e = .returned (.bool true) ∧ Below w.heap.size w w' := by
  obtain ⟨q, capq, hcv⟩ := hx.form
  obtain ⟨p, cap, hsv⟩ := hs.form
  have HF : ∀ b, fewC xs = b → Hid (∀ w', Below w.heap.size w w' → Calls Tryz.prog 29 #[cv] w' fun e w'' => e = .returned (.bool b) ∧ Below w'.heap.size w' w'') := fun b hb => by
    subst hb; exact fun w' h => Few_any cv xs w' (hx.under h) hf hl
  have HR : ∀ r : RV, r.fits → ∀ b, fewB r = b → Hid (∀ w : World, Calls Tryz.prog 30 #[.agg #[.bool r.neg, .string r.n, .string r.d]] w fun e w' => e = .returned (.bool b) ∧ Below w.heap.size w w') := fun r hr b hb => by
    subst hb; exact fun w' => FewRatio_any r hr w'
  show Calls _ _ #[cv, sv, .agg #[.bool am.neg, .string am.n, .string am.d], .agg #[.bool bm.neg, .string bm.n, .string bm.d]] _ _
  cases hb1 : fewC xs with
  | false => rw [hsv]; exact sums_few false (fewB am) (fewB bm) cs.length hsl (.inl rfl) cv p cap am.neg am.n am.d bm.neg bm.n bm.d w HS (HF _ hb1) (HR am ha _ rfl) (HR bm hbm _ rfl)
  | true =>
  cases hb2 : fewB am with
  | false => rw [hsv]; exact sums_few true false (fewB bm) cs.length hsl (.inr (.inl ⟨rfl, rfl⟩)) cv p cap am.neg am.n am.d bm.neg bm.n bm.d w HS (HF _ hb1) (HR am ha _ hb2) (HR bm hbm _ rfl)
  | true =>
  cases hb3 : fewB bm with
  | false => rw [hsv]; exact sums_few true true false cs.length hsl (.inr (.inr (.inl ⟨rfl, rfl, rfl⟩))) cv p cap am.neg am.n am.d bm.neg bm.n bm.d w HS (HF _ hb1) (HR am ha _ hb2) (HR bm hbm _ hb3)
  | true =>
  by_cases hc : 12 < cs.length
  · rw [hsv]; exact sums_few true true true cs.length hsl (.inr (.inr (.inr ⟨rfl, rfl, rfl, hc⟩))) cv p cap am.neg am.n am.d bm.neg bm.n bm.d w HS (HF _ hb1) (HR am ha _ hb2) (HR bm hbm _ hb3)
  have hn := fewC_len hb1
  have HRun : ∀ r : RV, r.fits → ∀ w', Below w.heap.size w w' → Calls Tryz.prog 31 #[.slice q xs.length capq, .slice p cs.length cap, .agg #[.bool r.neg, .string r.n, .string r.d], .int .i64 (xs.length : Int)] w' (RunPost w' (runV xs cs r (xs.length : Int))) := fun r hr w' hb => by
    have := Run_any xs cs r (xs.length : Int) cv sv w' (hx.under hb) hn hf hr (hs.under hb) (by omega) (by omega)
    rw [hcv, hsv] at this
    exact this
  have HFt := HF _ hb1
  have HRa := HR am ha _ hb2
  have HRb := HR bm hbm _ hb3
  rw [hcv] at HFt
  rw [hcv, hsv]
  rcases runV_len xs cs am with ⟨E, hE, h1⟩ | ⟨s, l, h1⟩
  · have hX : ∃ F, ∀ w', Below w.heap.size w w' → Calls Tryz.prog 31 #[.slice q xs.length capq, .slice p cs.length cap, .agg #[.bool bm.neg, .string bm.n, .string bm.d], .int .i64 (xs.length : Int)] w' (RunE F w') := by
      rcases runV_len xs cs bm with ⟨F, _, h2⟩ | ⟨t, m, h2⟩
      · exact ⟨F, fun w' hb => by have h := HRun bm hbm w' hb; rw [h2] at h; exact h.mono fun e w'' h => runE_of h⟩
      · exact ⟨0, fun w' hb => by have h := HRun bm hbm w' hb; rw [h2] at h; exact h.mono fun e w'' h => runE_ok h⟩
    obtain ⟨F, hX⟩ := hX
    exact sums_err E F (.inl hE) xs.length cs.length hn (by omega) p q cap capq am.neg am.n am.d bm.neg bm.n bm.d w HS HFt HRa HRb (fun w' hb => by have h := HRun am ha w' hb; rw [h1] at h; exact h.mono fun e w'' h => runE_of h) hX
  rcases runV_len xs cs bm with ⟨F, hF, h2⟩ | ⟨t, m, h2⟩
  · exact sums_err 0 F (.inr ⟨rfl, hF⟩) xs.length cs.length hn (by omega) p q cap capq am.neg am.n am.d bm.neg bm.n bm.d w HS HFt HRa HRb (fun w' hb => by have h := HRun am ha w' hb; rw [h1] at h; exact h.mono fun e w'' h => runE_ok h)
      (fun w' hb => by have h := HRun bm hbm w' hb; rw [h2] at h; exact h.mono fun e w'' h => runE_of h)
  have hp := pair_runV h1 h2
  have fa : am.few := by unfold fewB at hb2; simpa [RV.few] using hb2
  have fb : bm.few := by unfold fewB at hb3; simpa [RV.few] using hb3
  have fx : ∀ x ∈ xs, x.r.few := by
    intro x hm
    unfold fewC at hb1
    simp only [Bool.and_eq_true, List.all_eq_true] at hb1
    have := hb1.1 x hm
    unfold fewB at this
    simpa [RV.few] using this
  obtain ⟨hg, hu⟩ := sum_law xs cs am bm fa fb fx h1 h2
  have hfu : s.us.length ≤ maxLen ∧ s.ws.length ≤ maxLen := by
    have := len_runV h1
    have : s.us.length + s.ws.length ≤ xs.length := by simpa using this
    omega
  have HA : Hid (∀ w : World, Calls Tryz.prog 24 #[.agg #[.bool am.neg, .string am.n, .string am.d], .agg #[.bool bm.neg, .string bm.n, .string bm.d]] w fun e w' => e = .returned (.tuple #[.agg #[.bool (addR am bm).1.neg, .string (addR am bm).1.n, .string (addR am bm).1.d], .int .i64 0]) ∧ Below w.heap.size w w') := fun w => by
    have h := RAdd_any am bm ha hbm w
    unfold CalcR at h
    rw [hg] at h
    exact h
  have H0 : Hid (∀ w', Below w.heap.size w w' → Calls Tryz.prog 31 #[.slice q xs.length capq, .slice p cs.length cap, .agg #[.bool am.neg, .string am.n, .string am.d], .int .i64 (xs.length : Int)] w' (RunS s.us s.ws s.us.length s.ws.length s.lead w')) := fun w' hb => by
    have h := HRun am ha w' hb; rw [h1] at h; exact h.mono fun e w'' h => runS_of h rfl rfl rfl
  have H1 : Hid (∀ w', Below w.heap.size w w' → Calls Tryz.prog 31 #[.slice q xs.length capq, .slice p cs.length cap, .agg #[.bool bm.neg, .string bm.n, .string bm.d], .int .i64 (xs.length : Int)] w' (RunS t.us t.ws s.us.length s.ws.length s.lead w')) := fun w' hb => by
    have h := HRun bm hbm w' hb; rw [h2] at h; exact h.mono fun e w'' h => runS_of h hp.us.symm hp.ws.symm hp.lead.symm
  rcases hu with ⟨u, h3, hR⟩ | h3
  · have H2 : Hid (∀ w', Below w.heap.size w w' → Calls Tryz.prog 31 #[.slice q xs.length capq, .slice p cs.length cap, .agg #[.bool (addR am bm).1.neg, .string (addR am bm).1.n, .string (addR am bm).1.d], .int .i64 (xs.length : Int)] w' (RunS u.us u.ws s.us.length s.ws.length s.lead w')) := fun w' hb => by
      have h := HRun _ (addR_fits am bm) w' hb; rw [h3] at h; exact h.mono fun e w'' h => runS_of h hR.us.2.1.symm hR.ws.2.1.symm hR.l2.symm
    refine sums_ok s.us.length s.ws.length s.us t.us u.us s.ws t.ws u.ws rfl hp.us.symm hR.us.2.1.symm rfl hp.ws.symm hR.ws.2.1.symm ?_ ?_ hfu.1 hfu.2 s.lead xs.length cs.length hn (by omega) p q cap capq am.neg am.n am.d bm.neg bm.n bm.d w (addR am bm).1.neg (addR am bm).1.n (addR am bm).1.d HS HFt HRa HRb H0 H1 HA H2
    · intro k x y z hx hy hz
      obtain ⟨e1, e2, e3, e4, P, Q, e5, e6, e7, e8, e9⟩ := hR.us.2.2 k x y z hx hy hz
      obtain ⟨xi, xa, xo, xb⟩ := x
      obtain ⟨yi, ya, yo, yb⟩ := y
      obtain ⟨zi, za, zo, zb⟩ := z
      dsimp only at e1 e2 e3 e4 e5 e6 e7
      subst e1; subst e2; subst e3; subst e4; subst e5; subst e6; subst e7
      obtain ⟨k1, k2, k3⟩ := add_of e8 e9
      refine ⟨_, _, _, _, _, _, _, _, rfl, rfl, rfl, fun w => ?_⟩
      have h := RAdd_any (ofQ P) (ofQ Q) k2 k3 w
      rw [k1] at h
      exact h
    · intro k x y z hx hy hz
      obtain ⟨e1, e2, e3, e4, e5, e6, e7, e8⟩ := hR.ws.2.2 k x y z hx hy hz
      obtain ⟨xi, xa⟩ := x
      obtain ⟨yi, ya⟩ := y
      obtain ⟨zi, za⟩ := z
      dsimp only at e1 e2 e3 e4 e5 e6 e7 e8
      subst e1
      exact ⟨_, _, _, _, _, rfl, rfl, rfl, e2, e3, e4, Go.IntWalk.i64_in _ (by omega)⟩
  · have H2 : Hid (∀ w', Below w.heap.size w w' → Calls Tryz.prog 31 #[.slice q xs.length capq, .slice p cs.length cap, .agg #[.bool (addR am bm).1.neg, .string (addR am bm).1.n, .string (addR am bm).1.d], .int .i64 (xs.length : Int)] w' (RunE 2 w')) := fun w' hb => by
      have h := HRun _ (addR_fits am bm) w' hb; rw [h3] at h; exact h.mono fun e w'' h => runE_of h
    exact sums_lim s.us t.us s.ws t.ws s.us.length s.ws.length hfu.1 hfu.2 s.lead xs.length cs.length hn (by omega) p q cap capq am.neg am.n am.d bm.neg bm.n bm.d w (addR am bm).1.neg (addR am bm).1.n (addR am bm).1.d HS HFt HRa HRb H0 H1 HA H2
end Go.Proofs.YtekjphkabfiheaaGreat
