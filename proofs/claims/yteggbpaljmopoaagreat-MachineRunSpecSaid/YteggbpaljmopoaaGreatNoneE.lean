/- What the program makes of an empty source: fifth part. Conditions: those that each theorem states. -/
import Derived.Test.YteggbpaljmopoaaGreatNoneD
import Derived.Test.YteggbpaljmopoaaGreatMachA
set_option linter.unusedVariables false
set_option linter.unusedSimpArgs false
/- recipes.steps, Lower where there is nothing. PRINTED BY wip/gen_lower.py -/
namespace Go.Proofs.YteggbpaljmopoaaGreat
open Go.RowKit BF
theorem steps_nil (w : World) : Calls Tryz.prog 79 #[] w fun e w' => e = .returned (.slice (some ⟨w.heap.size, 0, none⟩) 5 5) ∧ w' = w.alloc (.cells #[.func (.func 105) #[] #[], .func (.func 106) #[] #[], .func (.func 107) #[] #[], .func (.func 108) #[] #[], .func (.func 109) #[] #[]] 119) := by
  go_enter Tryz.func79, Tryz.ntmps79
  go_wp2_with (fail)
  go_ret
  exact ⟨rfl, rfl⟩
def T10 (x y : Value) : Array Value := #[.slice none 0 0, .slice none 0 0, .slice none 0 0, .slice none 0 0, .slice none 0 0, .slice none 0 0, .slice none 0 0, .slice none 0 0, x, y]
structure LI (w W : World) (x y : Value) : Prop where
  a : Blk W w.heap.size 53 #[.slice none 0 0, .slice none 0 0, .slice none 0 0, .slice none 0 0, .slice none 0 0, .slice none 0 0, .slice none 0 0, .slice none 0 0]
  t : Blk W (w.heap.size + 1) 56 #[.slice none 0 0, .slice none 0 0, .slice none 0 0, .slice none 0 0, .slice none 0 0, .slice none 0 0, .slice none 0 0, .slice none 0 0, x, y]
  b : Below w.heap.size w W
theorem LI.under {w W W' : World} {x y : Value} (h : LI w W x y) (hb : Below W.heap.size W W') : LI w W' x y := ⟨h.1.under hb, h.2.under hb, h.3.trans (hb.mono h.3.size)⟩
theorem LI.al {w W : World} {x y : Value} (h : LI w W x y) (o : Obj) : LI w (W.alloc o) x y := ⟨h.1.alloc o, h.2.alloc o, h.3.alloc h.3.size o⟩
theorem LI.sets {w W : World} {x y : Value} (h : LI w W x y) (i : Nat) (v : Value) (hi : i < 8) (hv : v = .slice none 0 0) : LI w (W.setCell ⟨w.heap.size + 1, i, none⟩ v) x y := by
  subst hv
  refine ⟨h.1.other _ (by omega), ?_, h.3.setCell (by simp) _⟩
  have := h.2.set (i := i) (.slice none 0 0)
  rcases i with _ | _ | _ | _ | _ | _ | _ | _ | i <;> first | exact this | omega
theorem LI.setx {w W : World} {x y : Value} (h : LI w W x y) (v : Value) : LI w (W.setCell ⟨w.heap.size + 1, 8, none⟩ v) v y :=
  ⟨h.1.other _ (by omega), h.2.set (i := 8) v, h.3.setCell (by simp) _⟩
theorem LI.sety {w W : World} {x y : Value} (h : LI w W x y) (v : Value) : LI w (W.setCell ⟨w.heap.size + 1, 9, none⟩ v) x v :=
  ⟨h.1.other _ (by omega), h.2.set (i := 9) v, h.3.setCell (by simp) _⟩
theorem LI.fill {w W : World} {x y : Value} (h : LI w W x y) : ∃ W', ((((((((W.setCell ⟨w.heap.size + 1, 0, none⟩ (.slice none 0 0)).setCell ⟨w.heap.size + 1, 1, none⟩ (.slice none 0 0)).setCell ⟨w.heap.size + 1, 2, none⟩ (.slice none 0 0)).setCell ⟨w.heap.size + 1, 3, none⟩ (.slice none 0 0)).setCell ⟨w.heap.size + 1, 4, none⟩ (.slice none 0 0)).setCell ⟨w.heap.size + 1, 5, none⟩ (.slice none 0 0)).setCell ⟨w.heap.size + 1, 6, none⟩ (.slice none 0 0)).setCell ⟨w.heap.size + 1, 7, none⟩ (.slice none 0 0)) = W' ∧ Hid (LI w W' x y) :=
  ⟨_, rfl, (((((((h.sets 0 _ (by omega) rfl).sets 1 _ (by omega) rfl).sets 2 _ (by omega) rfl).sets 3 _ (by omega) rfl).sets 4 _ (by omega) rfl).sets 5 _ (by omega) rfl).sets 6 _ (by omega) rfl).sets 7 _ (by omega) rfl⟩
theorem LI.fill2 {w W : World} {x y : Value} (h : LI w W x y) : ∃ W', ((((((((((W.setCell ⟨w.heap.size + 1, 0, none⟩ (.slice none 0 0)).setCell ⟨w.heap.size + 1, 1, none⟩ (.slice none 0 0)).setCell ⟨w.heap.size + 1, 2, none⟩ (.slice none 0 0)).setCell ⟨w.heap.size + 1, 3, none⟩ (.slice none 0 0)).setCell ⟨w.heap.size + 1, 4, none⟩ (.slice none 0 0)).setCell ⟨w.heap.size + 1, 5, none⟩ (.slice none 0 0)).setCell ⟨w.heap.size + 1, 6, none⟩ (.slice none 0 0)).setCell ⟨w.heap.size + 1, 7, none⟩ (.slice none 0 0)).setCell ⟨w.heap.size + 1, 8, none⟩ x).setCell ⟨w.heap.size + 1, 9, none⟩ y) = W' ∧ Hid (LI w W' x y) :=
  ⟨_, rfl, (((((((((h.sets 0 _ (by omega) rfl).sets 1 _ (by omega) rfl).sets 2 _ (by omega) rfl).sets 3 _ (by omega) rfl).sets 4 _ (by omega) rfl).sets 5 _ (by omega) rfl).sets 6 _ (by omega) rfl).sets 7 _ (by omega) rfl).setx x).sety y⟩
def LowerNil (w : World) (e : Ending) (w' : World) : Prop := (∃ g n c h k, e = .returned (.tuple #[.agg (T10 (.slice (some ⟨g, n, none⟩) 0 c) (.slice (some ⟨h, k, none⟩) 0 0)), .int .i64 0])) ∧ Below w.heap.size w w'
set_option maxRecDepth 100000 in
set_option maxHeartbeats 4000000 in
theorem lower_nil (w : World) : Calls Tryz.prog 53 #[.agg #[.slice none 0 0, .slice none 0 0, .slice none 0 0, .slice none 0 0, .slice none 0 0, .slice none 0 0, .slice none 0 0, .slice none 0 0]] w (LowerNil w) := by
  have hmk : ∀ w : World, (Instr.makeSlice 54 (.int .i64 0) (.int .i64 0)).run Tryz.prog w = .ok (.slice (some ⟨w.heap.size, 0, none⟩) 0 0) (w.alloc (.cells #[] 22)) := fun _ => by kernel_rfl
  have HA : Hid (Blk ((w.alloc (.cells #[.slice none 0 0, .slice none 0 0, .slice none 0 0, .slice none 0 0, .slice none 0 0, .slice none 0 0, .slice none 0 0, .slice none 0 0] 53)).alloc (.cells #[.slice none 0 0, .slice none 0 0, .slice none 0 0, .slice none 0 0, .slice none 0 0, .slice none 0 0, .slice none 0 0, .slice none 0 0, .slice none 0 0, .slice none 0 0] 56)) w.heap.size 53 #[.slice none 0 0, .slice none 0 0, .slice none 0 0, .slice none 0 0, .slice none 0 0, .slice none 0 0, .slice none 0 0, .slice none 0 0]) := (Blk.new w _ _).alloc _
  have HT : Hid (Blk ((w.alloc (.cells #[.slice none 0 0, .slice none 0 0, .slice none 0 0, .slice none 0 0, .slice none 0 0, .slice none 0 0, .slice none 0 0, .slice none 0 0] 53)).alloc (.cells #[.slice none 0 0, .slice none 0 0, .slice none 0 0, .slice none 0 0, .slice none 0 0, .slice none 0 0, .slice none 0 0, .slice none 0 0, .slice none 0 0, .slice none 0 0] 56)) (w.heap.size + 1) 56 #[.slice none 0 0, .slice none 0 0, .slice none 0 0, .slice none 0 0, .slice none 0 0, .slice none 0 0, .slice none 0 0, .slice none 0 0, .slice none 0 0, .slice none 0 0]) := Blk.new' _ _ _ _ (by simp)
  have HW : Hid (Below w.heap.size w ((w.alloc (.cells #[.slice none 0 0, .slice none 0 0, .slice none 0 0, .slice none 0 0, .slice none 0 0, .slice none 0 0, .slice none 0 0, .slice none 0 0] 53)).alloc (.cells #[.slice none 0 0, .slice none 0 0, .slice none 0 0, .slice none 0 0, .slice none 0 0, .slice none 0 0, .slice none 0 0, .slice none 0 0, .slice none 0 0, .slice none 0 0] 56))) := ((Below.refl _ w).alloc (Nat.le_refl _) _).alloc (by simp) _
  obtain ⟨W, hW⟩ : ∃ W, (w.alloc (.cells #[.slice none 0 0, .slice none 0 0, .slice none 0 0, .slice none 0 0, .slice none 0 0, .slice none 0 0, .slice none 0 0, .slice none 0 0] 53)).alloc (.cells #[.slice none 0 0, .slice none 0 0, .slice none 0 0, .slice none 0 0, .slice none 0 0, .slice none 0 0, .slice none 0 0, .slice none 0 0, .slice none 0 0, .slice none 0 0] 56) = W := ⟨_, rfl⟩
  rw [hW] at HA HT HW
  have c0 := HA.out.cell (i := 0) rfl
  have c1 := HA.out.cell (i := 1) rfl
  have c2 := HA.out.cell (i := 2) rfl
  have c3 := HA.out.cell (i := 3) rfl
  have c4 := HA.out.cell (i := 4) rfl
  have c5 := HA.out.cell (i := 5) rfl
  have c6 := HA.out.cell (i := 6) rfl
  have c7 := HA.out.cell (i := 7) rfl
  go_enter Tryz.func53, Tryz.ntmps53
  go_wp2_with (fail)
  refine (steps_nil _).mono ?_
  rintro e w0 ⟨rfl, rfl⟩
  have HS0 : Hid (Blk (W.alloc (.cells #[.func (.func 105) #[] #[], .func (.func 106) #[] #[], .func (.func 107) #[] #[], .func (.func 108) #[] #[], .func (.func 109) #[] #[]] 119)) W.heap.size 119 #[.func (.func 105) #[] #[], .func (.func 106) #[] #[], .func (.func 107) #[] #[], .func (.func 108) #[] #[], .func (.func 109) #[] #[]]) := Blk.new W _ _
  have HI0 := Lib.hid (LI.al (w := w) ⟨HA.out, HT.out, HW.out⟩ (.cells #[.func (.func 105) #[] #[], .func (.func 106) #[] #[], .func (.func 107) #[] #[], .func (.func 108) #[] #[], .func (.func 109) #[] #[]] 119))
  clear hW HA HT HW c0 c1 c2 c3 c4 c5 c6 c7
  have c0 := HI0.out.a.cell (i := 0) rfl
  have c1 := HI0.out.a.cell (i := 1) rfl
  have c2 := HI0.out.a.cell (i := 2) rfl
  have c3 := HI0.out.a.cell (i := 3) rfl
  have c4 := HI0.out.a.cell (i := 4) rfl
  have c5 := HI0.out.a.cell (i := 5) rfl
  have c6 := HI0.out.a.cell (i := 6) rfl
  have c7 := HI0.out.a.cell (i := 7) rfl
  have s0 := HS0.out.cell (i := 0) rfl
  have s1 := HS0.out.cell (i := 1) rfl
  have s2 := HS0.out.cell (i := 2) rfl
  have s3 := HS0.out.cell (i := 3) rfl
  have s4 := HS0.out.cell (i := 4) rfl
  go_wp2_with (fail)
  refine wp_loop_rounds 6 ?_
  rw [rounds_succ]
  go_wp2_with (fail)
  refine (resolved_nil _).mono ?_
  rintro e w1 ⟨rfl, hb⟩
  have HS1 := Lib.hid (HS0.out.under hb)
  have HI1 := Lib.hid (HI0.out.under hb)
  clear hb c0 c1 c2 c3 c4 c5 c6 c7 s0 s1 s2 s3 s4
  have c0 := HI1.out.a.cell (i := 0) rfl
  have c1 := HI1.out.a.cell (i := 1) rfl
  have c2 := HI1.out.a.cell (i := 2) rfl
  have c3 := HI1.out.a.cell (i := 3) rfl
  have c4 := HI1.out.a.cell (i := 4) rfl
  have c5 := HI1.out.a.cell (i := 5) rfl
  have c6 := HI1.out.a.cell (i := 6) rfl
  have c7 := HI1.out.a.cell (i := 7) rfl
  have s0 := HS1.out.cell (i := 0) rfl
  have s1 := HS1.out.cell (i := 1) rfl
  have s2 := HS1.out.cell (i := 2) rfl
  have s3 := HS1.out.cell (i := 3) rfl
  have s4 := HS1.out.cell (i := 4) rfl
  go_wp2_with (fail)
  rw [rounds_succ]
  go_wp2_with (fail)
  refine (tcheck_nil _).mono ?_
  rintro e w2 ⟨rfl, hb⟩
  have HS2 := Lib.hid (HS1.out.under hb)
  have HI2 := Lib.hid (HI1.out.under hb)
  clear hb c0 c1 c2 c3 c4 c5 c6 c7 s0 s1 s2 s3 s4
  have c0 := HI2.out.a.cell (i := 0) rfl
  have c1 := HI2.out.a.cell (i := 1) rfl
  have c2 := HI2.out.a.cell (i := 2) rfl
  have c3 := HI2.out.a.cell (i := 3) rfl
  have c4 := HI2.out.a.cell (i := 4) rfl
  have c5 := HI2.out.a.cell (i := 5) rfl
  have c6 := HI2.out.a.cell (i := 6) rfl
  have c7 := HI2.out.a.cell (i := 7) rfl
  have s0 := HS2.out.cell (i := 0) rfl
  have s1 := HS2.out.cell (i := 1) rfl
  have s2 := HS2.out.cell (i := 2) rfl
  have s3 := HS2.out.cell (i := 3) rfl
  have s4 := HS2.out.cell (i := 4) rfl
  go_wp2_with (fail)
  rw [rounds_succ]
  go_wp2_with (fail)
  refine (whole_nil _).mono ?_
  rintro e w3 ⟨rfl, hb⟩
  have HS3 := Lib.hid (HS2.out.under hb)
  have HI3 := Lib.hid (HI2.out.under hb)
  clear hb c0 c1 c2 c3 c4 c5 c6 c7 s0 s1 s2 s3 s4
  have c0 := HI3.out.a.cell (i := 0) rfl
  have c1 := HI3.out.a.cell (i := 1) rfl
  have c2 := HI3.out.a.cell (i := 2) rfl
  have c3 := HI3.out.a.cell (i := 3) rfl
  have c4 := HI3.out.a.cell (i := 4) rfl
  have c5 := HI3.out.a.cell (i := 5) rfl
  have c6 := HI3.out.a.cell (i := 6) rfl
  have c7 := HI3.out.a.cell (i := 7) rfl
  have s0 := HS3.out.cell (i := 0) rfl
  have s1 := HS3.out.cell (i := 1) rfl
  have s2 := HS3.out.cell (i := 2) rfl
  have s3 := HS3.out.cell (i := 3) rfl
  have s4 := HS3.out.cell (i := 4) rfl
  go_wp2_with (fail)
  rw [rounds_succ]
  go_wp2_with (fail)
  refine (bcheck_nil _).mono ?_
  rintro e w4 ⟨rfl, hb⟩
  have HS4 := Lib.hid (HS3.out.under hb)
  have HI4 := Lib.hid (HI3.out.under hb)
  clear hb c0 c1 c2 c3 c4 c5 c6 c7 s0 s1 s2 s3 s4
  have c0 := HI4.out.a.cell (i := 0) rfl
  have c1 := HI4.out.a.cell (i := 1) rfl
  have c2 := HI4.out.a.cell (i := 2) rfl
  have c3 := HI4.out.a.cell (i := 3) rfl
  have c4 := HI4.out.a.cell (i := 4) rfl
  have c5 := HI4.out.a.cell (i := 5) rfl
  have c6 := HI4.out.a.cell (i := 6) rfl
  have c7 := HI4.out.a.cell (i := 7) rfl
  have s0 := HS4.out.cell (i := 0) rfl
  have s1 := HS4.out.cell (i := 1) rfl
  have s2 := HS4.out.cell (i := 2) rfl
  have s3 := HS4.out.cell (i := 3) rfl
  have s4 := HS4.out.cell (i := 4) rfl
  go_wp2_with (fail)
  rw [rounds_succ]
  go_wp2_with (fail)
  refine (lcheck_nil _).mono ?_
  rintro e w5 ⟨rfl, hb⟩
  have HS5 := Lib.hid (HS4.out.under hb)
  have HI5 := Lib.hid (HI4.out.under hb)
  clear hb c0 c1 c2 c3 c4 c5 c6 c7 s0 s1 s2 s3 s4
  have c0 := HI5.out.a.cell (i := 0) rfl
  have c1 := HI5.out.a.cell (i := 1) rfl
  have c2 := HI5.out.a.cell (i := 2) rfl
  have c3 := HI5.out.a.cell (i := 3) rfl
  have c4 := HI5.out.a.cell (i := 4) rfl
  have c5 := HI5.out.a.cell (i := 5) rfl
  have c6 := HI5.out.a.cell (i := 6) rfl
  have c7 := HI5.out.a.cell (i := 7) rfl
  have s0 := HS5.out.cell (i := 0) rfl
  have s1 := HS5.out.cell (i := 1) rfl
  have s2 := HS5.out.cell (i := 2) rfl
  have s3 := HS5.out.cell (i := 3) rfl
  have s4 := HS5.out.cell (i := 4) rfl
  go_wp2_with (fail)
  rw [rounds_succ]
  have t0 := HI5.out.t.cell (i := 0) rfl
  have t1 := HI5.out.t.cell (i := 1) rfl
  have t2 := HI5.out.t.cell (i := 2) rfl
  have t3 := HI5.out.t.cell (i := 3) rfl
  have t4 := HI5.out.t.cell (i := 4) rfl
  have t5 := HI5.out.t.cell (i := 5) rfl
  have t6 := HI5.out.t.cell (i := 6) rfl
  have t7 := HI5.out.t.cell (i := 7) rfl
  have t8 := HI5.out.t.cell (i := 8) rfl
  have t9 := HI5.out.t.cell (i := 9) rfl
  have tf := HI5.out.t.frozen
  go_wp2_with (fail)
  obtain ⟨W6, hW6, H6⟩ := HI5.out.fill
  rw [hW6]
  clear hW6 tf t0 t1 t2 t3 t4 t5 t6 t7 t8 t9 c0 c1 c2 c3 c4 c5 c6 c7 s0 s1 s2 s3 s4
  refine (levels_nil _).mono ?_
  rintro e w7 ⟨⟨g, n, c, rfl⟩, hb⟩
  have HI7 := Lib.hid (H6.out.under hb)
  clear hb
  have HI8 := Lib.hid (HI7.out.setx (.slice (some ⟨g, n, none⟩) 0 c))
  have HI9 := Lib.hid (HI8.out.al (.cells #[] 22))
  have HI10 := Lib.hid (HI9.out.sety (.slice (some ⟨w7.heap.size, 0, none⟩) 0 0))
  obtain ⟨W11, hW11, HI11⟩ := HI10.out.fill2
  have c0 := HI7.out.a.cell (i := 0) rfl
  have c1 := HI7.out.a.cell (i := 1) rfl
  have c2 := HI7.out.a.cell (i := 2) rfl
  have c3 := HI7.out.a.cell (i := 3) rfl
  have c4 := HI7.out.a.cell (i := 4) rfl
  have c5 := HI7.out.a.cell (i := 5) rfl
  have c6 := HI7.out.a.cell (i := 6) rfl
  have c7 := HI7.out.a.cell (i := 7) rfl
  have e0 := HI8.out.a.cell (i := 0) rfl
  have e1 := HI8.out.a.cell (i := 1) rfl
  have e2 := HI8.out.a.cell (i := 2) rfl
  have e3 := HI8.out.a.cell (i := 3) rfl
  have e4 := HI8.out.a.cell (i := 4) rfl
  have e5 := HI8.out.a.cell (i := 5) rfl
  have e6 := HI8.out.a.cell (i := 6) rfl
  have e7 := HI8.out.a.cell (i := 7) rfl
  have f0 := HI10.out.t.cell (i := 0) rfl
  have f1 := HI10.out.t.cell (i := 1) rfl
  have f2 := HI10.out.t.cell (i := 2) rfl
  have f3 := HI10.out.t.cell (i := 3) rfl
  have f4 := HI10.out.t.cell (i := 4) rfl
  have f5 := HI10.out.t.cell (i := 5) rfl
  have f6 := HI10.out.t.cell (i := 6) rfl
  have f7 := HI10.out.t.cell (i := 7) rfl
  have f8 := HI10.out.t.cell (i := 8) rfl
  have f9 := HI10.out.t.cell (i := 9) rfl
  have g0 := HI10.out.a.cell (i := 0) rfl
  have g1 := HI10.out.a.cell (i := 1) rfl
  have g2 := HI10.out.a.cell (i := 2) rfl
  have g3 := HI10.out.a.cell (i := 3) rfl
  have g4 := HI10.out.a.cell (i := 4) rfl
  have g5 := HI10.out.a.cell (i := 5) rfl
  have g6 := HI10.out.a.cell (i := 6) rfl
  have g7 := HI10.out.a.cell (i := 7) rfl
  have d8 := HI7.out.t.cell (i := 8) rfl
  have df7 := HI7.out.t.frozen
  have d9 := HI9.out.t.cell (i := 9) rfl
  have df9 := HI9.out.t.frozen
  have df10 := HI10.out.t.frozen
  go_wp2_with (fail)
  refine wp_loop_rounds 1 ?_
  rw [rounds_succ]
  go_wp2_with (fail)
  refine wp_loop_rounds 1 ?_
  rw [rounds_succ]
  go_wp2_with (fail)
  have k0 := HI11.out.t.cell (i := 0) rfl
  have k1 := HI11.out.t.cell (i := 1) rfl
  have k2 := HI11.out.t.cell (i := 2) rfl
  have k3 := HI11.out.t.cell (i := 3) rfl
  have k4 := HI11.out.t.cell (i := 4) rfl
  have k5 := HI11.out.t.cell (i := 5) rfl
  have k6 := HI11.out.t.cell (i := 6) rfl
  have k7 := HI11.out.t.cell (i := 7) rfl
  have k8 := HI11.out.t.cell (i := 8) rfl
  have k9 := HI11.out.t.cell (i := 9) rfl
  refine bodyPost_ret (v := .tuple #[.agg (T10 (.slice (some ⟨g, n, none⟩) 0 c) (.slice (some ⟨w7.heap.size, 0, none⟩) 0 0)), .int .i64 0]) ?_ rfl ⟨⟨_, _, _, _, _, rfl⟩, HI11.out.b⟩
  rw [results_cell_tmp rfl]
  go_simp
  rfl
end Go.Proofs.YteggbpaljmopoaaGreat
/- recipes.Same, Check, machine.Needs where there is nothing. PRINTED BY wip/gen_needs.py -/
namespace Go.Proofs.YteggbpaljmopoaaGreat
open Go.RowKit BF
set_option maxRecDepth 100000 in
set_option maxHeartbeats 4000000 in
theorem tsame_nil (p q : Option Addr) (c d : Nat) (w : World) : Calls Tryz.prog 54 #[.agg #[.slice none 0 0, .slice none 0 0, .slice none 0 0, .slice none 0 0, .slice none 0 0, .slice none 0 0, .slice none 0 0, .slice none 0 0, .slice p 0 c, .slice q 0 d], .agg #[.slice none 0 0, .slice none 0 0, .slice none 0 0, .slice none 0 0, .slice none 0 0, .slice none 0 0, .slice none 0 0, .slice none 0 0, .slice none 0 0, .slice none 0 0]] w fun e w' => e = .returned (.bool true) ∧ Below w.heap.size w w' := by
  have HA : Hid (Blk ((w.alloc (.cells #[.slice none 0 0, .slice none 0 0, .slice none 0 0, .slice none 0 0, .slice none 0 0, .slice none 0 0, .slice none 0 0, .slice none 0 0, .slice p 0 c, .slice q 0 d] 56)).alloc (.cells #[.slice none 0 0, .slice none 0 0, .slice none 0 0, .slice none 0 0, .slice none 0 0, .slice none 0 0, .slice none 0 0, .slice none 0 0, .slice none 0 0, .slice none 0 0] 56)) w.heap.size 56 #[.slice none 0 0, .slice none 0 0, .slice none 0 0, .slice none 0 0, .slice none 0 0, .slice none 0 0, .slice none 0 0, .slice none 0 0, .slice p 0 c, .slice q 0 d]) := (Blk.new w _ _).alloc _
  have HT : Hid (Blk ((w.alloc (.cells #[.slice none 0 0, .slice none 0 0, .slice none 0 0, .slice none 0 0, .slice none 0 0, .slice none 0 0, .slice none 0 0, .slice none 0 0, .slice p 0 c, .slice q 0 d] 56)).alloc (.cells #[.slice none 0 0, .slice none 0 0, .slice none 0 0, .slice none 0 0, .slice none 0 0, .slice none 0 0, .slice none 0 0, .slice none 0 0, .slice none 0 0, .slice none 0 0] 56)) (w.heap.size + 1) 56 #[.slice none 0 0, .slice none 0 0, .slice none 0 0, .slice none 0 0, .slice none 0 0, .slice none 0 0, .slice none 0 0, .slice none 0 0, .slice none 0 0, .slice none 0 0]) := Blk.new' _ _ _ _ (by simp)
  have HW : Hid (Below w.heap.size w ((w.alloc (.cells #[.slice none 0 0, .slice none 0 0, .slice none 0 0, .slice none 0 0, .slice none 0 0, .slice none 0 0, .slice none 0 0, .slice none 0 0, .slice p 0 c, .slice q 0 d] 56)).alloc (.cells #[.slice none 0 0, .slice none 0 0, .slice none 0 0, .slice none 0 0, .slice none 0 0, .slice none 0 0, .slice none 0 0, .slice none 0 0, .slice none 0 0, .slice none 0 0] 56))) := ((Below.refl _ w).alloc (Nat.le_refl _) _).alloc (by simp) _
  obtain ⟨W, hW⟩ : ∃ W, (w.alloc (.cells #[.slice none 0 0, .slice none 0 0, .slice none 0 0, .slice none 0 0, .slice none 0 0, .slice none 0 0, .slice none 0 0, .slice none 0 0, .slice p 0 c, .slice q 0 d] 56)).alloc (.cells #[.slice none 0 0, .slice none 0 0, .slice none 0 0, .slice none 0 0, .slice none 0 0, .slice none 0 0, .slice none 0 0, .slice none 0 0, .slice none 0 0, .slice none 0 0] 56) = W := ⟨_, rfl⟩
  rw [hW] at HA HT HW
  have c0 := HA.out.cell (i := 0) rfl
  have c1 := HA.out.cell (i := 1) rfl
  have c2 := HA.out.cell (i := 2) rfl
  have c3 := HA.out.cell (i := 3) rfl
  have c4 := HA.out.cell (i := 4) rfl
  have c5 := HA.out.cell (i := 5) rfl
  have c6 := HA.out.cell (i := 6) rfl
  have c7 := HA.out.cell (i := 7) rfl
  have c8 := HA.out.cell (i := 8) rfl
  have c9 := HA.out.cell (i := 9) rfl
  have d0 := HT.out.cell (i := 0) rfl
  have d1 := HT.out.cell (i := 1) rfl
  have d2 := HT.out.cell (i := 2) rfl
  have d3 := HT.out.cell (i := 3) rfl
  have d4 := HT.out.cell (i := 4) rfl
  have d5 := HT.out.cell (i := 5) rfl
  have d6 := HT.out.cell (i := 6) rfl
  have d7 := HT.out.cell (i := 7) rfl
  have d8 := HT.out.cell (i := 8) rfl
  have d9 := HT.out.cell (i := 9) rfl
  go_enter Tryz.func54, Tryz.ntmps54
  go_wp2_with (fail)
  refine (same_nil _).mono ?_
  rintro e w1 ⟨rfl, hb⟩
  have HA1 := Lib.hid (HA.out.under hb)
  have HT1 := Lib.hid (HT.out.under hb)
  have HW1 := Lib.hid (HW.out.trans (hb.mono HW.out.size))
  clear hb hW c0 c1 c2 c3 c4 c5 c6 c7 c8 c9 d0 d1 d2 d3 d4 d5 d6 d7 d8 d9
  have c0 := HA1.out.cell (i := 0) rfl
  have c1 := HA1.out.cell (i := 1) rfl
  have c2 := HA1.out.cell (i := 2) rfl
  have c3 := HA1.out.cell (i := 3) rfl
  have c4 := HA1.out.cell (i := 4) rfl
  have c5 := HA1.out.cell (i := 5) rfl
  have c6 := HA1.out.cell (i := 6) rfl
  have c7 := HA1.out.cell (i := 7) rfl
  have c8 := HA1.out.cell (i := 8) rfl
  have c9 := HA1.out.cell (i := 9) rfl
  have d0 := HT1.out.cell (i := 0) rfl
  have d1 := HT1.out.cell (i := 1) rfl
  have d2 := HT1.out.cell (i := 2) rfl
  have d3 := HT1.out.cell (i := 3) rfl
  have d4 := HT1.out.cell (i := 4) rfl
  have d5 := HT1.out.cell (i := 5) rfl
  have d6 := HT1.out.cell (i := 6) rfl
  have d7 := HT1.out.cell (i := 7) rfl
  have d8 := HT1.out.cell (i := 8) rfl
  have d9 := HT1.out.cell (i := 9) rfl
  go_wp2_with (fail)
  refine (eq_int_nil _ _ _ _ _).mono ?_
  rintro e w2 ⟨rfl, rfl⟩
  go_wp2_with (fail)
  refine (eqf_code_nil _ _ _ _ _ _).mono ?_
  rintro e w3 ⟨rfl, rfl⟩
  go_wp2_with (fail)
  go_ret
  exact ⟨rfl, HW1.out⟩
set_option maxRecDepth 100000 in
set_option maxHeartbeats 4000000 in
theorem rcheck_nil (w : World) : Calls Tryz.prog 29 #[.agg #[.slice none 0 0, .slice none 0 0, .slice none 0 0, .slice none 0 0, .slice none 0 0, .slice none 0 0, .slice none 0 0, .slice none 0 0, .slice none 0 0, .slice none 0 0]] w fun e w' => e = .returned (.int .i64 0) ∧ Below w.heap.size w w' := by
  have HA : Hid (Blk (w.alloc (.cells #[.slice none 0 0, .slice none 0 0, .slice none 0 0, .slice none 0 0, .slice none 0 0, .slice none 0 0, .slice none 0 0, .slice none 0 0, .slice none 0 0, .slice none 0 0] 56)) w.heap.size 56 #[.slice none 0 0, .slice none 0 0, .slice none 0 0, .slice none 0 0, .slice none 0 0, .slice none 0 0, .slice none 0 0, .slice none 0 0, .slice none 0 0, .slice none 0 0]) := Blk.new w _ _
  have HW : Hid (Below w.heap.size w (w.alloc (.cells #[.slice none 0 0, .slice none 0 0, .slice none 0 0, .slice none 0 0, .slice none 0 0, .slice none 0 0, .slice none 0 0, .slice none 0 0, .slice none 0 0, .slice none 0 0] 56))) := (Below.refl _ w).alloc (Nat.le_refl _) _
  have c0 := HA.out.cell (i := 0) rfl
  have c1 := HA.out.cell (i := 1) rfl
  have c2 := HA.out.cell (i := 2) rfl
  have c3 := HA.out.cell (i := 3) rfl
  have c4 := HA.out.cell (i := 4) rfl
  have c5 := HA.out.cell (i := 5) rfl
  have c6 := HA.out.cell (i := 6) rfl
  have c7 := HA.out.cell (i := 7) rfl
  have c8 := HA.out.cell (i := 8) rfl
  have c9 := HA.out.cell (i := 9) rfl
  go_enter Tryz.func29, Tryz.ntmps29
  go_wp2_with (fail)
  refine (lower_nil _).mono ?_
  rintro e w1 ⟨⟨g, n, c, h, k, rfl⟩, hb⟩
  have HA1 := Lib.hid (HA.out.under hb)
  have HW1 := Lib.hid (HW.out.trans (hb.mono HW.out.size))
  clear hb c0 c1 c2 c3 c4 c5 c6 c7 c8 c9
  obtain ⟨z, hz⟩ : ∃ z, w1.heap.size = z := ⟨_, rfl⟩
  have HX : Hid (Blk (w1.alloc (.cells #[.slice none 0 0, .slice none 0 0, .slice none 0 0, .slice none 0 0, .slice none 0 0, .slice none 0 0, .slice none 0 0, .slice none 0 0, .slice (some ⟨g, n, none⟩) 0 c, .slice (some ⟨h, k, none⟩) 0 0] 56)) w1.heap.size 56 #[.slice none 0 0, .slice none 0 0, .slice none 0 0, .slice none 0 0, .slice none 0 0, .slice none 0 0, .slice none 0 0, .slice none 0 0, .slice (some ⟨g, n, none⟩) 0 c, .slice (some ⟨h, k, none⟩) 0 0]) := Blk.new w1 _ _
  have HA2 := Lib.hid (HA1.out.alloc (.cells #[.slice none 0 0, .slice none 0 0, .slice none 0 0, .slice none 0 0, .slice none 0 0, .slice none 0 0, .slice none 0 0, .slice none 0 0, .slice (some ⟨g, n, none⟩) 0 c, .slice (some ⟨h, k, none⟩) 0 0] 56))
  have HW2 := Lib.hid (HW1.out.alloc HW1.out.size (.cells #[.slice none 0 0, .slice none 0 0, .slice none 0 0, .slice none 0 0, .slice none 0 0, .slice none 0 0, .slice none 0 0, .slice none 0 0, .slice (some ⟨g, n, none⟩) 0 c, .slice (some ⟨h, k, none⟩) 0 0] 56))
  clear hz z
  have c0 := HA1.out.cell (i := 0) rfl
  have c1 := HA1.out.cell (i := 1) rfl
  have c2 := HA1.out.cell (i := 2) rfl
  have c3 := HA1.out.cell (i := 3) rfl
  have c4 := HA1.out.cell (i := 4) rfl
  have c5 := HA1.out.cell (i := 5) rfl
  have c6 := HA1.out.cell (i := 6) rfl
  have c7 := HA1.out.cell (i := 7) rfl
  have c8 := HA1.out.cell (i := 8) rfl
  have c9 := HA1.out.cell (i := 9) rfl
  have d0 := HA2.out.cell (i := 0) rfl
  have d1 := HA2.out.cell (i := 1) rfl
  have d2 := HA2.out.cell (i := 2) rfl
  have d3 := HA2.out.cell (i := 3) rfl
  have d4 := HA2.out.cell (i := 4) rfl
  have d5 := HA2.out.cell (i := 5) rfl
  have d6 := HA2.out.cell (i := 6) rfl
  have d7 := HA2.out.cell (i := 7) rfl
  have d8 := HA2.out.cell (i := 8) rfl
  have d9 := HA2.out.cell (i := 9) rfl
  simp only [T10]
  go_wp2_with (fail)
  refine (tsame_nil _ _ _ _ _).mono ?_
  rintro e w2 ⟨rfl, hb⟩
  have HW3 := Lib.hid (HW2.out.trans (hb.mono HW2.out.size))
  clear hb
  go_wp2_with (fail)
  go_ret
  exact ⟨rfl, HW3.out⟩
set_option maxRecDepth 100000 in
set_option maxHeartbeats 4000000 in
theorem needs_nil (x y z : Value) (w : World) : Calls Tryz.prog 15 #[.agg #[.slice none 0 0, .slice none 0 0, .slice none 0 0, .slice none 0 0, .slice none 0 0, .slice none 0 0, .slice none 0 0, .slice none 0 0, .slice none 0 0, .slice none 0 0], .int .i64 0, .int .i64 0, .int .i64 0, .int .i64 0, .agg #[x, y, z]] w fun e w' => e = .returned (.tuple #[.slice none 0 0, .slice none 0 0, .int .i64 0, .int .i64 1]) ∧ Below w.heap.size w w' := by
  have HA : Hid (Blk ((w.alloc (.cells #[.slice none 0 0, .slice none 0 0, .slice none 0 0, .slice none 0 0, .slice none 0 0, .slice none 0 0, .slice none 0 0, .slice none 0 0, .slice none 0 0, .slice none 0 0] 56)).alloc (.cells #[x, y, z] 25)) w.heap.size 56 #[.slice none 0 0, .slice none 0 0, .slice none 0 0, .slice none 0 0, .slice none 0 0, .slice none 0 0, .slice none 0 0, .slice none 0 0, .slice none 0 0, .slice none 0 0]) := (Blk.new w _ _).alloc _
  have HW : Hid (Below w.heap.size w ((w.alloc (.cells #[.slice none 0 0, .slice none 0 0, .slice none 0 0, .slice none 0 0, .slice none 0 0, .slice none 0 0, .slice none 0 0, .slice none 0 0, .slice none 0 0, .slice none 0 0] 56)).alloc (.cells #[x, y, z] 25))) := ((Below.refl _ w).alloc (Nat.le_refl _) _).alloc (by simp) _
  obtain ⟨W, hW⟩ : ∃ W, (w.alloc (.cells #[.slice none 0 0, .slice none 0 0, .slice none 0 0, .slice none 0 0, .slice none 0 0, .slice none 0 0, .slice none 0 0, .slice none 0 0, .slice none 0 0, .slice none 0 0] 56)).alloc (.cells #[x, y, z] 25) = W := ⟨_, rfl⟩
  rw [hW] at HA HW
  have c0 := HA.out.cell (i := 0) rfl
  have c1 := HA.out.cell (i := 1) rfl
  have c2 := HA.out.cell (i := 2) rfl
  have c3 := HA.out.cell (i := 3) rfl
  have c4 := HA.out.cell (i := 4) rfl
  have c5 := HA.out.cell (i := 5) rfl
  have c6 := HA.out.cell (i := 6) rfl
  have c7 := HA.out.cell (i := 7) rfl
  have c8 := HA.out.cell (i := 8) rfl
  have c9 := HA.out.cell (i := 9) rfl
  go_enter Tryz.func15, Tryz.ntmps15
  go_wp2_with (fail)
  refine (rcheck_nil _).mono ?_
  rintro e w1 ⟨rfl, hb⟩
  have HA1 := Lib.hid (HA.out.under hb)
  have HW1 := Lib.hid (HW.out.trans (hb.mono HW.out.size))
  clear hb hW c0 c1 c2 c3 c4 c5 c6 c7 c8 c9
  have c0 := HA1.out.cell (i := 0) rfl
  have c1 := HA1.out.cell (i := 1) rfl
  have c2 := HA1.out.cell (i := 2) rfl
  have c3 := HA1.out.cell (i := 3) rfl
  have c4 := HA1.out.cell (i := 4) rfl
  have c5 := HA1.out.cell (i := 5) rfl
  have c6 := HA1.out.cell (i := 6) rfl
  have c7 := HA1.out.cell (i := 7) rfl
  have c8 := HA1.out.cell (i := 8) rfl
  have c9 := HA1.out.cell (i := 9) rfl
  go_wp2_with (fail)
  refine (in_any _ _ _ _).mono ?_
  rintro e w2 ⟨rfl, rfl⟩
  have hin : inB 0 0 (-1) = false := by decide
  go_wp2_with (fail)
  refine bodyPost_ret (results_tmp4 rfl _ _ _) rfl ?_
  exact ⟨rfl, HW1.out⟩
end Go.Proofs.YteggbpaljmopoaaGreat
