/- What the program makes of an empty source: third part. Conditions: those that each theorem states. -/
import Derived.Test.YteggbpaljmopoaaGreatNoneB
import Derived.RegionTactic
import Derived.ChangeAlike
import Derived.RecoverIn
set_option linter.unusedVariables false
set_option linter.unusedSimpArgs false
/- options.Hole, recipes.whole where there is nothing. PRINTED BY wip/gen_hole.py -/
namespace Go.Proofs.YteggbpaljmopoaaGreat
open Go.RowKit BF Go.Shelf
structure HI (w W : World) : Prop where
  s : Blk W w.heap.size 53 #[.slice none 0 0, .slice none 0 0, .slice none 0 0, .slice none 0 0, .slice none 0 0, .slice none 0 0, .slice none 0 0, .slice none 0 0]
  h : Blk W (w.heap.size + 1) 215 #[.int .i64 0, .int .i64 0, .int .i64 0, .slice none 0 0, .int .i64 0]
  k : Blk W (w.heap.size + 1 + 1) 4 #[.bool false]
  b : Below w.heap.size w W
theorem HI.under {w W W' : World} (h : HI w W) (hb : Below W.heap.size W W') : HI w W' := ⟨h.1.under hb, h.2.under hb, h.3.under hb, h.4.trans (hb.mono h.4.size)⟩
theorem hole_boxes (w : World) : ∃ W, (((w.alloc (.cells #[.slice none 0 0, .slice none 0 0, .slice none 0 0, .slice none 0 0, .slice none 0 0, .slice none 0 0, .slice none 0 0, .slice none 0 0] 53)).alloc (.cells #[.int .i64 0, .int .i64 0, .int .i64 0, .slice none 0 0, .int .i64 0] 215)).alloc (.cells #[.bool false] 4)) = W ∧ Hid (HI w W) :=
  ⟨_, rfl, ((Blk.new w _ _).alloc _).alloc _, (Blk.new' _ _ _ _ (by simp)).alloc _, Blk.new' _ _ _ _ (by simp), (((Below.refl _ w).alloc (Nat.le_refl _) _).alloc (by simp) _).alloc (by simp; omega) _⟩
theorem hfill1 {w W : World} (h : HI w W) (i : Nat) (v : Value) (hv : (#[.int .i64 0, .int .i64 0, .int .i64 0, .slice none 0 0, .int .i64 0] : Array Value).setIfInBounds i v = #[.int .i64 0, .int .i64 0, .int .i64 0, .slice none 0 0, .int .i64 0]) : ∃ W2, W.setCell ⟨w.heap.size + 1, i, none⟩ v = W2 ∧ HI w W2 := by
  refine ⟨_, rfl, h.1.other _ (by omega), ?_, h.3.other _ (by omega), h.4.setCell (by simp) _⟩
  have := h.2.set (i := i) v
  rwa [hv] at this
theorem hfill {w W : World} (h : HI w W) : ∃ W2, ((((((W.setCell ⟨w.heap.size + 1, 0, none⟩ (.int .i64 0)).setCell ⟨w.heap.size + 1, 1, none⟩ (.int .i64 0)).setCell ⟨w.heap.size + 1, 2, none⟩ (.int .i64 0)).setCell ⟨w.heap.size + 1, 3, none⟩ (.slice none 0 0)).setCell ⟨w.heap.size + 1, 4, none⟩ (.int .i64 0)).setCell ⟨w.heap.size + 1 + 1, 0, none⟩ (.bool false)) = W2 ∧ Hid (HI w W2) := by
  obtain ⟨W1, e1, h1⟩ := hfill1 h 0 (.int .i64 0) rfl
  obtain ⟨W2, e2, h2⟩ := hfill1 h1 1 (.int .i64 0) rfl
  obtain ⟨W3, e3, h3⟩ := hfill1 h2 2 (.int .i64 0) rfl
  obtain ⟨W4, e4, h4⟩ := hfill1 h3 3 (.slice none 0 0) rfl
  obtain ⟨W5, e5, h5⟩ := hfill1 h4 4 (.int .i64 0) rfl
  exact ⟨_, by rw [e1, e2, e3, e4, e5], h5.1.other _ (by omega), h5.2.other _ (by omega), h5.3.set (i := 0) _, h5.4.setCell (by simp; omega) _⟩
set_option maxRecDepth 100000 in
set_option maxHeartbeats 2000000 in
theorem hole_nil (w : World) : Calls Tryz.prog 147 #[.agg #[.slice none 0 0, .slice none 0 0, .slice none 0 0, .slice none 0 0, .slice none 0 0, .slice none 0 0, .slice none 0 0, .slice none 0 0]] w fun e w' => e = .returned (.tuple #[.agg #[.int .i64 0, .int .i64 0, .int .i64 0, .slice none 0 0, .int .i64 0], .bool false, .int .i64 0]) ∧ Below w.heap.size w w' := by
  obtain ⟨W0, hW0, H0⟩ := hole_boxes w
  have c0 := H0.out.s.cell (i := 0) rfl
  have c1 := H0.out.s.cell (i := 1) rfl
  have c2 := H0.out.s.cell (i := 2) rfl
  have c3 := H0.out.s.cell (i := 3) rfl
  have c4 := H0.out.s.cell (i := 4) rfl
  have c5 := H0.out.s.cell (i := 5) rfl
  have c6 := H0.out.s.cell (i := 6) rfl
  have c7 := H0.out.s.cell (i := 7) rfl
  go_enter Tryz.func147, Tryz.ntmps147
  go_wp2_with (fail)
  go_step3
  go_wp2_with (fail)
  refine (ovalid_nil _).mono ?_
  rintro e w1 ⟨rfl, hb⟩
  have H1 := Lib.hid (H0.out.under hb)
  clear hb hW0 c0 c1 c2 c3 c4 c5 c6 c7
  have c0 := H1.out.s.cell (i := 0) rfl
  have c1 := H1.out.s.cell (i := 1) rfl
  have c2 := H1.out.s.cell (i := 2) rfl
  have c3 := H1.out.s.cell (i := 3) rfl
  have c4 := H1.out.s.cell (i := 4) rfl
  have c5 := H1.out.s.cell (i := 5) rfl
  have c6 := H1.out.s.cell (i := 6) rfl
  have c7 := H1.out.s.cell (i := 7) rfl
  have d0 := H1.out.h.cell (i := 0) rfl
  have d1 := H1.out.h.cell (i := 1) rfl
  have d2 := H1.out.h.cell (i := 2) rfl
  have d3 := H1.out.h.cell (i := 3) rfl
  have d4 := H1.out.h.cell (i := 4) rfl
  have e0 := H1.out.k.cell (i := 0) rfl
  have f1 := H1.out.h.frozen
  have f2 := H1.out.k.frozen
  go_wp2_with (fail)
  go_step3
  go_wp2_with (fail)
  refine wp_loop_rounds 1 ?_
  rw [rounds_succ]
  go_wp2
  try rw [Exit.noGoto_normal]
  go_wp2
  go_region
  all_goals (go_wp2)
  all_goals (try rw [Exit.noGoto_ret])
  all_goals
    clear c0 c1 c2 c3 c4 c5 c6 c7 d0 d1 d2 d3 d4 e0 f1 f2
    obtain ⟨W2, hW2, H2⟩ := hfill H1.out
    rw [hW2]
    clear hW2
    have d0 := H2.out.h.cell (i := 0) rfl
    have d1 := H2.out.h.cell (i := 1) rfl
    have d2 := H2.out.h.cell (i := 2) rfl
    have d3 := H2.out.h.cell (i := 3) rfl
    have d4 := H2.out.h.cell (i := 4) rfl
    have e0 := H2.out.k.cell (i := 0) rfl
    refine bodyPost_ret (v := .tuple #[.agg #[.int .i64 0, .int .i64 0, .int .i64 0, .slice none 0 0, .int .i64 0], .bool false, .int .i64 0]) (by simp [results, Tryz.results147, go_sem, d0, d1, d2, d3, d4, e0]) rfl ⟨rfl, H2.out.b.drew⟩
set_option maxRecDepth 100000 in
set_option maxHeartbeats 2000000 in
theorem whole_nil (w : World) : Calls Tryz.prog 107 #[.agg #[.slice none 0 0, .slice none 0 0, .slice none 0 0, .slice none 0 0, .slice none 0 0, .slice none 0 0, .slice none 0 0, .slice none 0 0]] w fun e w' => e = .returned (.int .i64 0) ∧ Below w.heap.size w w' := by
  have HA : Hid (Blk (w.alloc (.cells #[.slice none 0 0, .slice none 0 0, .slice none 0 0, .slice none 0 0, .slice none 0 0, .slice none 0 0, .slice none 0 0, .slice none 0 0] 53)) w.heap.size 53 #[.slice none 0 0, .slice none 0 0, .slice none 0 0, .slice none 0 0, .slice none 0 0, .slice none 0 0, .slice none 0 0, .slice none 0 0]) := Blk.new w _ _
  have HW : Hid (Below w.heap.size w (w.alloc (.cells #[.slice none 0 0, .slice none 0 0, .slice none 0 0, .slice none 0 0, .slice none 0 0, .slice none 0 0, .slice none 0 0, .slice none 0 0] 53))) := (Below.refl _ w).alloc (Nat.le_refl _) _
  have c0 := HA.out.cell (i := 0) rfl
  have c1 := HA.out.cell (i := 1) rfl
  have c2 := HA.out.cell (i := 2) rfl
  have c3 := HA.out.cell (i := 3) rfl
  have c4 := HA.out.cell (i := 4) rfl
  have c5 := HA.out.cell (i := 5) rfl
  have c6 := HA.out.cell (i := 6) rfl
  have c7 := HA.out.cell (i := 7) rfl
  go_enter Tryz.func107, Tryz.ntmps107
  go_wp2_with (fail)
  refine (config_nil _).mono ?_
  rintro e w1 ⟨⟨p, c, rfl⟩, hb⟩
  have HA1 := Lib.hid (HA.out.under hb)
  have HW1 := Lib.hid (HW.out.trans (hb.mono HW.out.size))
  clear hb c0 c1 c2 c3 c4 c5 c6 c7
  have c0 := HA1.out.cell (i := 0) rfl
  have c1 := HA1.out.cell (i := 1) rfl
  have c2 := HA1.out.cell (i := 2) rfl
  have c3 := HA1.out.cell (i := 3) rfl
  have c4 := HA1.out.cell (i := 4) rfl
  have c5 := HA1.out.cell (i := 5) rfl
  have c6 := HA1.out.cell (i := 6) rfl
  have c7 := HA1.out.cell (i := 7) rfl
  go_wp2_with (fail)
  refine (hole_nil _).mono ?_
  rintro e w2 ⟨rfl, hb⟩
  have HW2 := Lib.hid (HW1.out.trans (hb.mono HW1.out.size))
  clear hb
  go_wp2_with (fail)
  go_ret
  exact ⟨rfl, HW2.out.alloc HW2.out.size _⟩
end Go.Proofs.YteggbpaljmopoaaGreat
/- balance.findings, Wrong, Check where there is nothing. PRINTED BY wip/gen_wrong.py -/
namespace Go.Proofs.YteggbpaljmopoaaGreat
open Go.RowKit BF Go.Shelf
attribute [local go_sem] Oper.semAt_some
theorem findings_nil (w : World) : Calls Tryz.prog 194 #[.agg #[.slice none 0 0, .slice none 0 0, .slice none 0 0, .slice none 0 0, .slice none 0 0, .slice none 0 0, .slice none 0 0, .slice none 0 0]] w fun e w' => e = .returned (.func (.func 242) #[] #[.pointer (some ⟨w.heap.size, 0, none⟩)]) ∧ w' = w.alloc (.cells #[.slice none 0 0, .slice none 0 0, .slice none 0 0, .slice none 0 0, .slice none 0 0, .slice none 0 0, .slice none 0 0, .slice none 0 0] 53) := by
  go_enter Tryz.func194, Tryz.ntmps194
  go_wp2_with (fail)
  go_ret
  exact ⟨rfl, rfl⟩
def encF (x : Empty) : Array Value := x.elim
set_option maxRecDepth 100000 in
set_option maxHeartbeats 2000000 in
theorem find_in (n : Nat) (hn : 2 ≤ n) (Bs : Nat) (w : World) (hBs : Blk w Bs 53 #[.slice none 0 0, .slice none 0 0, .slice none 0 0, .slice none 0 0, .slice none 0 0, .slice none 0 0, .slice none 0 0, .slice none 0 0]) :
    SeqStopsK Fence.wide n Tryz.prog 242 #[.pointer (some ⟨Bs, 0, none⟩)] encF (fun _ _ => True) (fun ys => ys = []) (fun _ => False) 0 w := by
  intro l J Jx W hW hJ hJx hY h0
  have HB := Lib.hid (hBs.under hW)
  have H0 := Lib.hid h0
  have c6 := HB.out.cell (i := 6) rfl
  clear hW hBs h0
  refine callsIn_of_wp Tryz.func242 rfl trivial ?_ rfl
  simp only [Tryz.ntmps242, List.size_toArray, List.length_cons, List.length_nil, Nat.reduceAdd, Nat.reduceSub, Array.replicate_succ, Array.replicate_zero, List.push_toArray, List.append_toArray, List.nil_append, List.cons_append]
  gi_wp2
  refine wpIn_loop_rounds 1 ?_
  rw [roundsIn_succ]
  gi_wp2
  refine bodyPost_end (results_none rfl _ _ _) rfl ?_
  exact ⟨⟨_, rfl⟩, .inl ⟨_, rfl, H0.out⟩⟩
theorem catch_idle (g n : Nat) (hn : 1 ≤ n) (w : World) :
    CallsDIn Fence.wide n Tryz.prog 193 #[.pointer (some ⟨g, 0, none⟩)] .returning w fun e u' w' => e = .returned (.tuple #[]) ∧ u' = .returning ∧ w' = w := by
  refine callsDIn_of_wpSIn Tryz.func193 rfl trivial fun c₀ cs hu => ?_
  apply wpSIn_seq
  apply wpSIn_region
  simp [wpOpsSIn, go_sem, recoverD, hu, Tryz.ntmps193, Exit.thenS]
  refine wpSIn_of_wpIn rfl ?_
  gi_wp2
  cases c₀
  simp_all [bodyPostS, results, Tryz.results193]
structure WI (w W : World) : Prop where
  s : Blk W w.heap.size 53 #[.slice none 0 0, .slice none 0 0, .slice none 0 0, .slice none 0 0, .slice none 0 0, .slice none 0 0, .slice none 0 0, .slice none 0 0]
  i : Blk W (w.heap.size + 1) 3 #[.int .i64 0]
  r : Blk W (w.heap.size + 1 + 1) 25 #[.bool false, .string { data := #[] }, .string { data := #[] }]
  k : Blk W (w.heap.size + 1 + 1 + 1) 4 #[.bool false]
  e : Blk W (w.heap.size + 1 + 1 + 1 + 1) 31 #[.int .i64 0]
  b : Below w.heap.size w W
theorem WI.under {w W W' : World} (h : WI w W) (hb : Below W.heap.size W W') : WI w W' := ⟨h.1.under hb, h.2.under hb, h.3.under hb, h.4.under hb, h.5.under hb, h.6.trans (hb.mono h.6.size)⟩
theorem WI.kept {w W W' : World} {B : Nat} {row : Option Nat} (h : WI w W) (hB : w.heap.size + 1 + 1 + 1 + 1 < B) (hg : W.grownBy W' row) (hr : ∀ r, row = some r → B ≤ r) : WI w W' := by
  have hne : ∀ b, b < B → some b ≠ row := fun b hb he => by have := hr b he.symm; omega
  exact ⟨h.1.kept hg (hne _ (by omega)), h.2.kept hg (hne _ (by omega)), h.3.kept hg (hne _ (by omega)), h.4.kept hg (hne _ (by omega)), h.5.kept hg (hne _ hB), h.6.grown hg (Nat.le_of_lt h.1.lt) (fun k hk => by have := hr k hk; omega)⟩
theorem wrong_boxes (w : World) : ∃ W, (((((w.alloc (.cells #[.slice none 0 0, .slice none 0 0, .slice none 0 0, .slice none 0 0, .slice none 0 0, .slice none 0 0, .slice none 0 0, .slice none 0 0] 53)).alloc (.cells #[.int .i64 0] 3)).alloc (.cells #[.bool false, .string { data := #[] }, .string { data := #[] }] 25)).alloc (.cells #[.bool false] 4)).alloc (.cells #[.int .i64 0] 31)) = W ∧ Hid (WI w W) :=
  ⟨_, rfl, ((((Blk.new w _ _).alloc _).alloc _).alloc _).alloc _, (((Blk.new' _ _ _ _ (by simp)).alloc _).alloc _).alloc _, ((Blk.new' _ _ _ _ (by simp)).alloc _).alloc _, (Blk.new' _ _ _ _ (by simp)).alloc _, Blk.new' _ _ _ _ (by simp),
    (((((Below.refl _ w).alloc (Nat.le_refl _) _).alloc (by simp) _).alloc (by simp; omega) _).alloc (by simp; omega) _).alloc (by simp; omega) _⟩
theorem wfill {w W : World} (h : WI w W) : ∃ W2, ((((((W.setCell ⟨w.heap.size + 1, 0, none⟩ (.int .i64 0)).setCell ⟨w.heap.size + 1 + 1, 0, none⟩ (.bool false)).setCell ⟨w.heap.size + 1 + 1, 1, none⟩ (.string { data := #[] })).setCell ⟨w.heap.size + 1 + 1, 2, none⟩ (.string { data := #[] })).setCell ⟨w.heap.size + 1 + 1 + 1, 0, none⟩ (.bool false)).setCell ⟨w.heap.size + 1 + 1 + 1 + 1, 0, none⟩ (.int .i64 0)) = W2 ∧ Hid (WI w W2) ∧ Hid (∀ k, w.heap.size + 1 + 1 + 1 + 1 < k → W2.heap[k]? = W.heap[k]?) := by
  obtain ⟨h1, h2, h3, h4, h5, h6⟩ := h
  refine ⟨_, rfl, ⟨?_, ?_, ?_, ?_, ?_, ?_⟩, fun k hk => ?_⟩
  · exact (((((h1.other _ (by omega)).other _ (by omega)).other _ (by omega)).other _ (by omega)).other _ (by omega)).other _ (by omega)
  · exact (((((h2.set (i := 0) _).other _ (by omega)).other _ (by omega)).other _ (by omega)).other _ (by omega)).other _ (by omega)
  · exact (((((h3.other _ (by omega)).set (i := 0) _).set (i := 1) _).set (i := 2) _).other _ (by omega)).other _ (by omega)
  · exact (((((h4.other _ (by omega)).other _ (by omega)).other _ (by omega)).other _ (by omega)).set (i := 0) _).other _ (by omega)
  · exact (((((h5.other _ (by omega)).other _ (by omega)).other _ (by omega)).other _ (by omega)).other _ (by omega)).set (i := 0) _
  · exact (((((h6.setCell (by simp) _).setCell (by simp; omega) _).setCell (by simp; omega) _).setCell (by simp; omega) _).setCell (by simp; omega) _).setCell (by simp; omega) _
  · rw [Below.heap_setCell _ _ _ _ (by simp; omega), Below.heap_setCell _ _ _ _ (by simp; omega), Below.heap_setCell _ _ _ _ (by simp; omega), Below.heap_setCell _ _ _ _ (by simp; omega), Below.heap_setCell _ _ _ _ (by simp; omega), Below.heap_setCell _ _ _ _ (by simp; omega)]
set_option maxRecDepth 100000 in
set_option maxHeartbeats 2000000 in
theorem wrong_nil (w : World) : Calls Tryz.prog 148 #[.agg #[.slice none 0 0, .slice none 0 0, .slice none 0 0, .slice none 0 0, .slice none 0 0, .slice none 0 0, .slice none 0 0, .slice none 0 0]] w fun e w' => e = .returned (.tuple #[.int .i64 0, .agg #[.bool false, .string { data := #[] }, .string { data := #[] }], .bool false, .int .i64 0]) ∧ Below w.heap.size w w' := by
  refine (callsIn_wide (n := 8)).1 ?_
  refine callsIn_of_wp_marks Tryz.func148 rfl trivial ?_ rfl
  simp only [Tryz.ntmps148, List.size_toArray, List.length_cons, List.length_nil, Nat.reduceAdd, Nat.reduceSub, Array.replicate_succ, Array.replicate_zero, List.push_toArray, List.append_toArray, List.nil_append, List.cons_append]
  obtain ⟨W0, hW0, H0⟩ := wrong_boxes w
  have c0 := H0.out.s.cell (i := 0) rfl
  have c1 := H0.out.s.cell (i := 1) rfl
  have c2 := H0.out.s.cell (i := 2) rfl
  have c3 := H0.out.s.cell (i := 3) rfl
  have c4 := H0.out.s.cell (i := 4) rfl
  have c5 := H0.out.s.cell (i := 5) rfl
  have c6 := H0.out.s.cell (i := 6) rfl
  have c7 := H0.out.s.cell (i := 7) rfl
  gi_wp2_with (fail)
  refine ⟨trivial, ?_⟩
  refine (callsIn_wide.2 (tcheck_nil _)).mono ?_
  rintro e w1 ⟨rfl, hb⟩
  have H1 := Lib.hid (H0.out.under hb)
  clear hb hW0 c0 c1 c2 c3 c4 c5 c6 c7
  have c0 := H1.out.s.cell (i := 0) rfl
  have c1 := H1.out.s.cell (i := 1) rfl
  have c2 := H1.out.s.cell (i := 2) rfl
  have c3 := H1.out.s.cell (i := 3) rfl
  have c4 := H1.out.s.cell (i := 4) rfl
  have c5 := H1.out.s.cell (i := 5) rfl
  have c6 := H1.out.s.cell (i := 6) rfl
  have c7 := H1.out.s.cell (i := 7) rfl
  gi_wp2_with (fail)
  refine ⟨trivial, ?_⟩
  refine (callsIn_wide.2 (findings_nil _)).mono ?_
  rintro e w2 ⟨rfl, rfl⟩
  have HX : Hid (Blk (w1.alloc (.cells #[.slice none 0 0, .slice none 0 0, .slice none 0 0, .slice none 0 0, .slice none 0 0, .slice none 0 0, .slice none 0 0, .slice none 0 0] 53)) w1.heap.size 53 #[.slice none 0 0, .slice none 0 0, .slice none 0 0, .slice none 0 0, .slice none 0 0, .slice none 0 0, .slice none 0 0, .slice none 0 0]) := Blk.new w1 _ _
  have H2 := Lib.hid (H1.out.under ((Below.refl _ w1).alloc (Nat.le_refl _) (.cells #[.slice none 0 0, .slice none 0 0, .slice none 0 0, .slice none 0 0, .slice none 0 0, .slice none 0 0, .slice none 0 0, .slice none 0 0] 53)))
  have hs : w.heap.size + 1 + 1 + 1 + 1 < w1.heap.size := H1.out.e.lt
  clear c0 c1 c2 c3 c4 c5 c6 c7
  gi_wp2_with (fail)
  obtain ⟨W2, hW2⟩ : ∃ W2, w1.alloc (.cells #[.slice none 0 0, .slice none 0 0, .slice none 0 0, .slice none 0 0, .slice none 0 0, .slice none 0 0, .slice none 0 0, .slice none 0 0] 53) = W2 := ⟨_, rfl⟩
  have hs2 : W2.heap.size = w1.heap.size + 1 := by rw [← hW2]; simp
  rw [hW2] at HX H2 ⊢
  clear hW2
  refine wpIn_rangeFunc_ownF rfl (by omega) (gf := 242) (lb := #[.pointer (some ⟨w1.heap.size, 0, none⟩)]) rfl trivial (enters_of Tryz.func242 (by kernel_rfl) rfl)
    (encs := encF) (Kp := fun _ _ => True) (S := fun ys => ys = []) (Sp := fun _ => False) (N := 0) (w0 := W2)
    (find_in 7 (by omega) w1.heap.size W2 HX.out) (fun _ _ => trivial) (fun _ _ _ _ _ _ _ _ => trivial) (Below.refl _ _) (fun x => x.elim)
    (fun _ W => WI w W) (fun _ _ _ => False)
    (fun s W W' row hs' hg hr => hs'.kept (B := W2.heap.size) (by omega) hg (fun r e => (hr r e).1))
    (fun c s W W' row hs' hg hr => hs') H2.out (fun x => x.elim) (fun _ x => x.elim) (fun _ _ x => x.elim) ?done ?stop
  case done =>
    rintro D ys W hD _ hI hK
    have HI := Lib.hid hI
    have HK := Lib.hid hK
    have r0 := hI.r.cell (i := 0) rfl
    have r1 := hI.r.cell (i := 1) rfl
    have r2 := hI.r.cell (i := 2) rfl
    have i0 := hI.i.cell (i := 0) rfl
    have k0 := hI.k.cell (i := 0) rfl
    have e0 := hI.e.cell (i := 0) rfl
    have f1 := hI.i.frozen
    have f2 := hI.r.frozen
    have f3 := hI.k.frozen
    have f4 := hI.e.frozen
    clear hI hK
    gi_wp2
    refine wpIn_wide.2 ?_
    go_region
    all_goals gi_wp2
    all_goals
      clear r0 r1 r2 i0 k0 e0 f1 f2 f3 f4
      obtain ⟨W3, hW3, H3, HK3⟩ := wfill HI.out
      rw [hW3]
      clear hW3
      have hKD : Hid (W3.drew.heap[D]? = some (.deferred (some []))) := (HK3.out D (by omega)).trans HK.out
      have H4 : Hid (WI w (W3.drew.putObj D (.deferred none))) := (show WI w W3.drew from ⟨H3.out.1, H3.out.2, H3.out.3, H3.out.4, H3.out.5, H3.out.6.drew⟩).kept (B := W2.heap.size) (by omega) (grownBy_putObj' W3.drew D (.deferred none)) (fun r e => by cases e; exact hD)
      refine ⟨by simp, .inl ⟨_, _, rfl, run_takeDeferred hKD.out, ?_⟩⟩
      generalize World.putObj _ D (.deferred none) = Wf at *
      refine ⟨by simp, .inr ⟨fun _ => by omega, _, _, 193, #[.pointer (some ⟨w.heap.size + 1 + 1 + 1 + 1, 0, none⟩)], rfl, by simp [go_sem], fun _ _ => trivial, ?_⟩⟩
      refine (catch_idle _ 7 (by omega) Wf).mono ?_
      rintro e u' w' ⟨rfl, rfl, rfl⟩
      have r0 := H4.out.r.cell (i := 0) rfl
      have r1 := H4.out.r.cell (i := 1) rfl
      have r2 := H4.out.r.cell (i := 2) rfl
      have i0 := H4.out.i.cell (i := 0) rfl
      have k0 := H4.out.k.cell (i := 0) rfl
      have e0 := H4.out.e.cell (i := 0) rfl
      refine ⟨_, ?_, rfl, H4.out.b⟩
      simp [results, Tryz.results148, go_sem, r0, r1, r2, i0, k0, e0]
  case stop =>
    rintro D c pre W _ h
    exact h.elim
set_option maxRecDepth 100000 in
set_option maxHeartbeats 2000000 in
theorem bcheck_nil (w : World) : Calls Tryz.prog 108 #[.agg #[.slice none 0 0, .slice none 0 0, .slice none 0 0, .slice none 0 0, .slice none 0 0, .slice none 0 0, .slice none 0 0, .slice none 0 0]] w fun e w' => e = .returned (.int .i64 0) ∧ Below w.heap.size w w' := by
  have HA : Hid (Blk (w.alloc (.cells #[.slice none 0 0, .slice none 0 0, .slice none 0 0, .slice none 0 0, .slice none 0 0, .slice none 0 0, .slice none 0 0, .slice none 0 0] 53)) w.heap.size 53 #[.slice none 0 0, .slice none 0 0, .slice none 0 0, .slice none 0 0, .slice none 0 0, .slice none 0 0, .slice none 0 0, .slice none 0 0]) := Blk.new w _ _
  have HW : Hid (Below w.heap.size w (w.alloc (.cells #[.slice none 0 0, .slice none 0 0, .slice none 0 0, .slice none 0 0, .slice none 0 0, .slice none 0 0, .slice none 0 0, .slice none 0 0] 53))) := (Below.refl _ w).alloc (Nat.le_refl _) _
  have c0 := HA.out.cell (i := 0) rfl
  have c1 := HA.out.cell (i := 1) rfl
  have c2 := HA.out.cell (i := 2) rfl
  have c3 := HA.out.cell (i := 3) rfl
  have c4 := HA.out.cell (i := 4) rfl
  have c5 := HA.out.cell (i := 5) rfl
  have c6 := HA.out.cell (i := 6) rfl
  have c7 := HA.out.cell (i := 7) rfl
  go_enter Tryz.func108, Tryz.ntmps108
  go_wp2_with (fail)
  refine (wrong_nil _).mono ?_
  rintro e w1 ⟨rfl, hb⟩
  have HW1 := Lib.hid (HW.out.trans (hb.mono HW.out.size))
  clear hb
  go_wp2_with (fail)
  go_ret
  exact ⟨rfl, HW1.out.alloc HW1.out.size _⟩
end Go.Proofs.YteggbpaljmopoaaGreat
