/- What the program makes of an empty source: first part. Conditions: those that each theorem states. -/
import Derived.Test.YteggbpaljmopoaaGreatNatsA
import Derived.Carry
import Derived.WalkSpells
import Derived.Deep.RegionHeld3
set_option linter.unusedVariables false
set_option linter.unusedSimpArgs false
/- names: of, collect, numbered, Resolve, where there is nothing. PRINTED BY wip/gen_empty.py -/
namespace Go.Proofs.YteggbpaljmopoaaGreat
open Go.RowKit BF

def OfPost (w : World) (e : Ending) (w' : World) : Prop := (∃ g, e = .returned (.agg #[.map (some g), .bool false])) ∧ Below w.heap.size w w'

set_option maxRecDepth 100000 in
theorem of_nil_unit (f : Value) (w : World) : Calls Tryz.prog 209 #[.slice none 0 0, f] w (OfPost w) := by
  have hmm := @run_makeMap Tryz.prog
  go_enter Tryz.func209, Tryz.ntmps209
  go_wp2
  refine wp_loop_rounds 1 ?_
  rw [rounds_succ]
  go_wp2
  refine bodyPost_ret (v := .agg #[.map (some (w.heap.size + 1)), .bool false]) (by simp [results, Tryz.results209, go_sem]) rfl ⟨⟨_, rfl⟩, ((Below.refl _ w).alloc (Nat.le_refl _) _).alloc (by simp) _⟩

set_option maxRecDepth 100000 in
theorem of_nil_item (f : Value) (w : World) : Calls Tryz.prog 211 #[.slice none 0 0, f] w (OfPost w) := by
  have hmm := @run_makeMap Tryz.prog
  go_enter Tryz.func211, Tryz.ntmps211
  go_wp2
  refine wp_loop_rounds 1 ?_
  rw [rounds_succ]
  go_wp2
  refine bodyPost_ret (v := .agg #[.map (some (w.heap.size + 1)), .bool false]) (by simp [results, Tryz.results211, go_sem]) rfl ⟨⟨_, rfl⟩, ((Below.refl _ w).alloc (Nat.le_refl _) _).alloc (by simp) _⟩

set_option maxRecDepth 100000 in
theorem of_nil_str (f : Value) (w : World) : Calls Tryz.prog 213 #[.slice none 0 0, f] w (OfPost w) := by
  have hmm := @run_makeMap Tryz.prog
  go_enter Tryz.func213, Tryz.ntmps213
  go_wp2
  refine wp_loop_rounds 1 ?_
  rw [rounds_succ]
  go_wp2
  refine bodyPost_ret (v := .agg #[.map (some (w.heap.size + 1)), .bool false]) (by simp [results, Tryz.results213, go_sem]) rfl ⟨⟨_, rfl⟩, ((Below.refl _ w).alloc (Nat.le_refl _) _).alloc (by simp) _⟩

set_option maxRecDepth 100000 in
theorem of_nil_machine (f : Value) (w : World) : Calls Tryz.prog 215 #[.slice none 0 0, f] w (OfPost w) := by
  have hmm := @run_makeMap Tryz.prog
  go_enter Tryz.func215, Tryz.ntmps215
  go_wp2
  refine wp_loop_rounds 1 ?_
  rw [rounds_succ]
  go_wp2
  refine bodyPost_ret (v := .agg #[.map (some (w.heap.size + 1)), .bool false]) (by simp [results, Tryz.results215, go_sem]) rfl ⟨⟨_, rfl⟩, ((Below.refl _ w).alloc (Nat.le_refl _) _).alloc (by simp) _⟩

set_option maxRecDepth 100000 in
theorem of_nil_option (f : Value) (w : World) : Calls Tryz.prog 217 #[.slice none 0 0, f] w (OfPost w) := by
  have hmm := @run_makeMap Tryz.prog
  go_enter Tryz.func217, Tryz.ntmps217
  go_wp2
  refine wp_loop_rounds 1 ?_
  rw [rounds_succ]
  go_wp2
  refine bodyPost_ret (v := .agg #[.map (some (w.heap.size + 1)), .bool false]) (by simp [results, Tryz.results217, go_sem]) rfl ⟨⟨_, rfl⟩, ((Below.refl _ w).alloc (Nat.le_refl _) _).alloc (by simp) _⟩

set_option maxRecDepth 100000 in
theorem clone_nil_item (w : World) : Calls Tryz.prog 224 #[.slice none 0 0] w fun e w' => e = .returned (.slice none 0 0) ∧ w' = w := by
  have hnil := fun W => Lib.run_eql_slice_nil (P := Tryz.prog) W 45 188 none 0 0 0 0 Tryz.underlying45
  go_enter Tryz.func224, Tryz.ntmps224
  go_wp2
  go_ret
  exact ⟨rfl, rfl⟩
set_option maxRecDepth 100000 in
theorem numbered_nil_item (f : Value) (w : World) : Calls Tryz.prog 167 #[.slice none 0 0, f] w fun e w' => e = .returned (.slice none 0 0) ∧ Below w.heap.size w w' := by
  go_enter Tryz.func167, Tryz.ntmps167
  go_wp2_with (fail)
  refine (clone_nil_item _).mono ?_
  rintro e w1 ⟨rfl, rfl⟩
  go_wp2
  refine wp_loop_rounds 1 ?_
  rw [rounds_succ]
  go_wp2
  go_ret
  exact ⟨rfl, Below.refl _ _⟩

set_option maxRecDepth 100000 in
theorem clone_nil_machine (w : World) : Calls Tryz.prog 225 #[.slice none 0 0] w fun e w' => e = .returned (.slice none 0 0) ∧ w' = w := by
  have hnil := fun W => Lib.run_eql_slice_nil (P := Tryz.prog) W 47 191 none 0 0 0 0 Tryz.underlying47
  go_enter Tryz.func225, Tryz.ntmps225
  go_wp2
  go_ret
  exact ⟨rfl, rfl⟩
set_option maxRecDepth 100000 in
theorem numbered_nil_machine (f : Value) (w : World) : Calls Tryz.prog 170 #[.slice none 0 0, f] w fun e w' => e = .returned (.slice none 0 0) ∧ Below w.heap.size w w' := by
  go_enter Tryz.func170, Tryz.ntmps170
  go_wp2_with (fail)
  refine (clone_nil_machine _).mono ?_
  rintro e w1 ⟨rfl, rfl⟩
  go_wp2
  refine wp_loop_rounds 1 ?_
  rw [rounds_succ]
  go_wp2
  go_ret
  exact ⟨rfl, Below.refl _ _⟩

set_option maxRecDepth 100000 in
theorem clone_nil_conds (w : World) : Calls Tryz.prog 226 #[.slice none 0 0] w fun e w' => e = .returned (.slice none 0 0) ∧ w' = w := by
  have hnil := fun W => Lib.run_eql_slice_nil (P := Tryz.prog) W 49 121 none 0 0 0 0 Tryz.underlying49
  go_enter Tryz.func226, Tryz.ntmps226
  go_wp2
  go_ret
  exact ⟨rfl, rfl⟩
set_option maxRecDepth 100000 in
theorem numbered_nil_conds (f : Value) (w : World) : Calls Tryz.prog 172 #[.slice none 0 0, f] w fun e w' => e = .returned (.slice none 0 0) ∧ Below w.heap.size w w' := by
  go_enter Tryz.func172, Tryz.ntmps172
  go_wp2_with (fail)
  refine (clone_nil_conds _).mono ?_
  rintro e w1 ⟨rfl, rfl⟩
  go_wp2
  refine wp_loop_rounds 1 ?_
  rw [rounds_succ]
  go_wp2
  go_ret
  exact ⟨rfl, Below.refl _ _⟩

set_option maxRecDepth 100000 in
theorem clone_nil_recipe (w : World) : Calls Tryz.prog 228 #[.slice none 0 0] w fun e w' => e = .returned (.slice none 0 0) ∧ w' = w := by
  have hnil := fun W => Lib.run_eql_slice_nil (P := Tryz.prog) W 50 125 none 0 0 0 0 Tryz.underlying50
  go_enter Tryz.func228, Tryz.ntmps228
  go_wp2
  go_ret
  exact ⟨rfl, rfl⟩
set_option maxRecDepth 100000 in
theorem numbered_nil_recipe (f : Value) (w : World) : Calls Tryz.prog 176 #[.slice none 0 0, f] w fun e w' => e = .returned (.slice none 0 0) ∧ Below w.heap.size w w' := by
  go_enter Tryz.func176, Tryz.ntmps176
  go_wp2_with (fail)
  refine (clone_nil_recipe _).mono ?_
  rintro e w1 ⟨rfl, rfl⟩
  go_wp2
  refine wp_loop_rounds 1 ?_
  rw [rounds_succ]
  go_wp2
  go_ret
  exact ⟨rfl, Below.refl _ _⟩

set_option maxRecDepth 100000 in
theorem clone_nil_swap (w : World) : Calls Tryz.prog 233 #[.slice none 0 0] w fun e w' => e = .returned (.slice none 0 0) ∧ w' = w := by
  have hnil := fun W => Lib.run_eql_slice_nil (P := Tryz.prog) W 51 197 none 0 0 0 0 Tryz.underlying51
  go_enter Tryz.func233, Tryz.ntmps233
  go_wp2
  go_ret
  exact ⟨rfl, rfl⟩
set_option maxRecDepth 100000 in
theorem numbered_nil_swap (f : Value) (w : World) : Calls Tryz.prog 178 #[.slice none 0 0, f] w fun e w' => e = .returned (.slice none 0 0) ∧ Below w.heap.size w w' := by
  go_enter Tryz.func178, Tryz.ntmps178
  go_wp2_with (fail)
  refine (clone_nil_swap _).mono ?_
  rintro e w1 ⟨rfl, rfl⟩
  go_wp2
  refine wp_loop_rounds 1 ?_
  rw [rounds_succ]
  go_wp2
  go_ret
  exact ⟨rfl, Below.refl _ _⟩
end Go.Proofs.YteggbpaljmopoaaGreat
/- names.collect where there is nothing. PRINTED BY wip/gen_collect.py -/
namespace Go.Proofs.YteggbpaljmopoaaGreat
open Go.RowKit BF
def BookPost (w : World) (e : Ending) (w' : World) : Prop :=
  (∃ g1 g2 g3 g4 g5, e = .returned (.tuple #[.agg #[.map (some g1), .bool false, .map (some g2), .bool false, .map (some g3), .bool false, .map (some g4), .bool false, .map (some g5), .bool false, .slice none 0 0], .bool false])) ∧ Below w.heap.size w w'
theorem collect_boxes (w : World) : ∃ W, ((w.alloc (.cells #[.slice none 0 0, .slice none 0 0, .slice none 0 0, .slice none 0 0, .slice none 0 0, .slice none 0 0, .slice none 0 0, .slice none 0 0] 53)).alloc (.cells #[.map none, .bool false, .map none, .bool false, .map none, .bool false, .map none, .bool false, .map none, .bool false, .slice none 0 0] 237)) = W ∧ Hid (Blk W w.heap.size 53 #[.slice none 0 0, .slice none 0 0, .slice none 0 0, .slice none 0 0, .slice none 0 0, .slice none 0 0, .slice none 0 0, .slice none 0 0]) ∧ Hid (Blk W (w.heap.size + 1) 237 #[.map none, .bool false, .map none, .bool false, .map none, .bool false, .map none, .bool false, .map none, .bool false, .slice none 0 0]) ∧ Hid (Below w.heap.size w W) :=
  ⟨_, rfl, (Blk.new w _ _).alloc _, Blk.new' _ _ _ _ (by simp), ((Below.refl _ w).alloc (Nat.le_refl _) _).alloc (by simp) _⟩
structure Sc (w W : World) : Prop where
  a : Blk W w.heap.size 53 #[.slice none 0 0, .slice none 0 0, .slice none 0 0, .slice none 0 0, .slice none 0 0, .slice none 0 0, .slice none 0 0, .slice none 0 0]
  b : Blk W (w.heap.size + 1) 237 #[.map none, .bool false, .map none, .bool false, .map none, .bool false, .map none, .bool false, .map none, .bool false, .slice none 0 0]
  c : Below w.heap.size w W
theorem Sc.next {w W W' : World} {B : Nat} (h : Sc w W) (hb : Below B W W') (hB : W.heap.size = B) : Sc w W' := by subst hB; exact ⟨h.1.under hb, h.2.under hb, h.3.trans (hb.mono h.3.size)⟩
theorem Sc.drew {w W : World} (h : Sc w W) : Sc w W.drew := ⟨h.1, h.2, h.3.drew⟩
theorem five {w w' : World} {T : TypeId} (h : Blk w' w.heap.size T #[.slice none 0 0, .slice none 0 0, .slice none 0 0, .slice none 0 0, .slice none 0 0, .slice none 0 0, .slice none 0 0, .slice none 0 0]) : w'.cell? ⟨w.heap.size, 0, none⟩ = some (.slice none 0 0) ∧ w'.cell? ⟨w.heap.size, 1, none⟩ = some (.slice none 0 0) ∧ w'.cell? ⟨w.heap.size, 2, none⟩ = some (.slice none 0 0) ∧ w'.cell? ⟨w.heap.size, 3, none⟩ = some (.slice none 0 0) ∧ w'.cell? ⟨w.heap.size, 4, none⟩ = some (.slice none 0 0) :=
  ⟨h.cell (i := 0) rfl, h.cell (i := 1) rfl, h.cell (i := 2) rfl, h.cell (i := 3) rfl, h.cell (i := 4) rfl⟩
theorem fill1 {w W : World} {vs : Array Value} (hA : Blk W w.heap.size 53 #[.slice none 0 0, .slice none 0 0, .slice none 0 0, .slice none 0 0, .slice none 0 0, .slice none 0 0, .slice none 0 0, .slice none 0 0]) (hB : Blk W (w.heap.size + 1) 237 vs) (hC : Below w.heap.size w W) (i : Nat) (v : Value) (vs' : Array Value) (hv : vs.setIfInBounds i v = vs') :
    ∃ W2, W.setCell ⟨w.heap.size + 1, i, none⟩ v = W2 ∧ Blk W2 w.heap.size 53 #[.slice none 0 0, .slice none 0 0, .slice none 0 0, .slice none 0 0, .slice none 0 0, .slice none 0 0, .slice none 0 0, .slice none 0 0] ∧ Blk W2 (w.heap.size + 1) 237 vs' ∧ Below w.heap.size w W2 := by
  subst hv
  exact ⟨_, rfl, hA.other _ (by omega), hB.set (i := i) _, hC.setCell (by simp) _⟩
theorem book_fill {w W : World} (h : Sc w W) (g1 g2 g3 g4 g5 : Nat) : ∃ W2, (((((((((((W.setCell ⟨w.heap.size + 1, 0, none⟩ (.map (some g1))).setCell ⟨w.heap.size + 1, 1, none⟩ (.bool false)).setCell ⟨w.heap.size + 1, 2, none⟩ (.map (some g2))).setCell ⟨w.heap.size + 1, 3, none⟩ (.bool false)).setCell ⟨w.heap.size + 1, 4, none⟩ (.map (some g3))).setCell ⟨w.heap.size + 1, 5, none⟩ (.bool false)).setCell ⟨w.heap.size + 1, 6, none⟩ (.map (some g4))).setCell ⟨w.heap.size + 1, 7, none⟩ (.bool false)).setCell ⟨w.heap.size + 1, 8, none⟩ (.map (some g5))).setCell ⟨w.heap.size + 1, 9, none⟩ (.bool false)).setCell ⟨w.heap.size + 1, 10, none⟩ (.slice none 0 0)) = W2 ∧ Hid (Blk W2 w.heap.size 53 #[.slice none 0 0, .slice none 0 0, .slice none 0 0, .slice none 0 0, .slice none 0 0, .slice none 0 0, .slice none 0 0, .slice none 0 0]) ∧ Hid (Blk W2 (w.heap.size + 1) 237 #[.map (some g1), .bool false, .map (some g2), .bool false, .map (some g3), .bool false, .map (some g4), .bool false, .map (some g5), .bool false, .slice none 0 0]) ∧ Hid (Below w.heap.size w W2) := by
  obtain ⟨A0, B0, C0⟩ := h
  obtain ⟨W1, e1, A1, B1, C1⟩ := fill1 A0 B0 C0 0 (.map (some g1)) #[.map (some g1), .bool false, .map none, .bool false, .map none, .bool false, .map none, .bool false, .map none, .bool false, .slice none 0 0] rfl
  obtain ⟨W2, e2, A2, B2, C2⟩ := fill1 A1 B1 C1 1 (.bool false) #[.map (some g1), .bool false, .map none, .bool false, .map none, .bool false, .map none, .bool false, .map none, .bool false, .slice none 0 0] rfl
  obtain ⟨W3, e3, A3, B3, C3⟩ := fill1 A2 B2 C2 2 (.map (some g2)) #[.map (some g1), .bool false, .map (some g2), .bool false, .map none, .bool false, .map none, .bool false, .map none, .bool false, .slice none 0 0] rfl
  obtain ⟨W4, e4, A4, B4, C4⟩ := fill1 A3 B3 C3 3 (.bool false) #[.map (some g1), .bool false, .map (some g2), .bool false, .map none, .bool false, .map none, .bool false, .map none, .bool false, .slice none 0 0] rfl
  obtain ⟨W5, e5, A5, B5, C5⟩ := fill1 A4 B4 C4 4 (.map (some g3)) #[.map (some g1), .bool false, .map (some g2), .bool false, .map (some g3), .bool false, .map none, .bool false, .map none, .bool false, .slice none 0 0] rfl
  obtain ⟨W6, e6, A6, B6, C6⟩ := fill1 A5 B5 C5 5 (.bool false) #[.map (some g1), .bool false, .map (some g2), .bool false, .map (some g3), .bool false, .map none, .bool false, .map none, .bool false, .slice none 0 0] rfl
  obtain ⟨W7, e7, A7, B7, C7⟩ := fill1 A6 B6 C6 6 (.map (some g4)) #[.map (some g1), .bool false, .map (some g2), .bool false, .map (some g3), .bool false, .map (some g4), .bool false, .map none, .bool false, .slice none 0 0] rfl
  obtain ⟨W8, e8, A8, B8, C8⟩ := fill1 A7 B7 C7 7 (.bool false) #[.map (some g1), .bool false, .map (some g2), .bool false, .map (some g3), .bool false, .map (some g4), .bool false, .map none, .bool false, .slice none 0 0] rfl
  obtain ⟨W9, e9, A9, B9, C9⟩ := fill1 A8 B8 C8 8 (.map (some g5)) #[.map (some g1), .bool false, .map (some g2), .bool false, .map (some g3), .bool false, .map (some g4), .bool false, .map (some g5), .bool false, .slice none 0 0] rfl
  obtain ⟨W10, e10, A10, B10, C10⟩ := fill1 A9 B9 C9 9 (.bool false) #[.map (some g1), .bool false, .map (some g2), .bool false, .map (some g3), .bool false, .map (some g4), .bool false, .map (some g5), .bool false, .slice none 0 0] rfl
  obtain ⟨W11, e11, A11, B11, C11⟩ := fill1 A10 B10 C10 10 (.slice none 0 0) #[.map (some g1), .bool false, .map (some g2), .bool false, .map (some g3), .bool false, .map (some g4), .bool false, .map (some g5), .bool false, .slice none 0 0] rfl
  exact ⟨W11, by rw [e1, e2, e3, e4, e5, e6, e7, e8, e9, e10, e11], A11, B11, C11⟩
theorem book_refill {w W : World} {g1 g2 g3 g4 g5 : Nat} (A0 : Blk W w.heap.size 53 #[.slice none 0 0, .slice none 0 0, .slice none 0 0, .slice none 0 0, .slice none 0 0, .slice none 0 0, .slice none 0 0, .slice none 0 0]) (B0 : Blk W (w.heap.size + 1) 237 #[.map (some g1), .bool false, .map (some g2), .bool false, .map (some g3), .bool false, .map (some g4), .bool false, .map (some g5), .bool false, .slice none 0 0]) (C0 : Below w.heap.size w W) : ∃ W2, (((((((((((W.setCell ⟨w.heap.size + 1, 0, none⟩ (.map (some g1))).setCell ⟨w.heap.size + 1, 1, none⟩ (.bool false)).setCell ⟨w.heap.size + 1, 2, none⟩ (.map (some g2))).setCell ⟨w.heap.size + 1, 3, none⟩ (.bool false)).setCell ⟨w.heap.size + 1, 4, none⟩ (.map (some g3))).setCell ⟨w.heap.size + 1, 5, none⟩ (.bool false)).setCell ⟨w.heap.size + 1, 6, none⟩ (.map (some g4))).setCell ⟨w.heap.size + 1, 7, none⟩ (.bool false)).setCell ⟨w.heap.size + 1, 8, none⟩ (.map (some g5))).setCell ⟨w.heap.size + 1, 9, none⟩ (.bool false)).setCell ⟨w.heap.size + 1, 10, none⟩ (.slice none 0 0)) = W2 ∧ Hid (Blk W2 (w.heap.size + 1) 237 #[.map (some g1), .bool false, .map (some g2), .bool false, .map (some g3), .bool false, .map (some g4), .bool false, .map (some g5), .bool false, .slice none 0 0]) ∧ Hid (Below w.heap.size w W2) := by
  obtain ⟨W1, e1, A1, B1, C1⟩ := fill1 A0 B0 C0 0 (.map (some g1)) #[.map (some g1), .bool false, .map (some g2), .bool false, .map (some g3), .bool false, .map (some g4), .bool false, .map (some g5), .bool false, .slice none 0 0] rfl
  obtain ⟨W2, e2, A2, B2, C2⟩ := fill1 A1 B1 C1 1 (.bool false) #[.map (some g1), .bool false, .map (some g2), .bool false, .map (some g3), .bool false, .map (some g4), .bool false, .map (some g5), .bool false, .slice none 0 0] rfl
  obtain ⟨W3, e3, A3, B3, C3⟩ := fill1 A2 B2 C2 2 (.map (some g2)) #[.map (some g1), .bool false, .map (some g2), .bool false, .map (some g3), .bool false, .map (some g4), .bool false, .map (some g5), .bool false, .slice none 0 0] rfl
  obtain ⟨W4, e4, A4, B4, C4⟩ := fill1 A3 B3 C3 3 (.bool false) #[.map (some g1), .bool false, .map (some g2), .bool false, .map (some g3), .bool false, .map (some g4), .bool false, .map (some g5), .bool false, .slice none 0 0] rfl
  obtain ⟨W5, e5, A5, B5, C5⟩ := fill1 A4 B4 C4 4 (.map (some g3)) #[.map (some g1), .bool false, .map (some g2), .bool false, .map (some g3), .bool false, .map (some g4), .bool false, .map (some g5), .bool false, .slice none 0 0] rfl
  obtain ⟨W6, e6, A6, B6, C6⟩ := fill1 A5 B5 C5 5 (.bool false) #[.map (some g1), .bool false, .map (some g2), .bool false, .map (some g3), .bool false, .map (some g4), .bool false, .map (some g5), .bool false, .slice none 0 0] rfl
  obtain ⟨W7, e7, A7, B7, C7⟩ := fill1 A6 B6 C6 6 (.map (some g4)) #[.map (some g1), .bool false, .map (some g2), .bool false, .map (some g3), .bool false, .map (some g4), .bool false, .map (some g5), .bool false, .slice none 0 0] rfl
  obtain ⟨W8, e8, A8, B8, C8⟩ := fill1 A7 B7 C7 7 (.bool false) #[.map (some g1), .bool false, .map (some g2), .bool false, .map (some g3), .bool false, .map (some g4), .bool false, .map (some g5), .bool false, .slice none 0 0] rfl
  obtain ⟨W9, e9, A9, B9, C9⟩ := fill1 A8 B8 C8 8 (.map (some g5)) #[.map (some g1), .bool false, .map (some g2), .bool false, .map (some g3), .bool false, .map (some g4), .bool false, .map (some g5), .bool false, .slice none 0 0] rfl
  obtain ⟨W10, e10, A10, B10, C10⟩ := fill1 A9 B9 C9 9 (.bool false) #[.map (some g1), .bool false, .map (some g2), .bool false, .map (some g3), .bool false, .map (some g4), .bool false, .map (some g5), .bool false, .slice none 0 0] rfl
  obtain ⟨W11, e11, A11, B11, C11⟩ := fill1 A10 B10 C10 10 (.slice none 0 0) #[.map (some g1), .bool false, .map (some g2), .bool false, .map (some g3), .bool false, .map (some g4), .bool false, .map (some g5), .bool false, .slice none 0 0] rfl
  exact ⟨W11, by rw [e1, e2, e3, e4, e5, e6, e7, e8, e9, e10, e11], B11, C11⟩
set_option maxRecDepth 100000 in
set_option maxHeartbeats 2000000 in
theorem collect_nil (w : World) : Calls Tryz.prog 164 #[.agg #[.slice none 0 0, .slice none 0 0, .slice none 0 0, .slice none 0 0, .slice none 0 0, .slice none 0 0, .slice none 0 0, .slice none 0 0]] w (BookPost w) := by
  obtain ⟨W, hW, H1, H2, H3⟩ := collect_boxes w
  have HS0 : Hid (Sc w W.drew) := Sc.drew (Sc.mk H1.out H2.out H3.out)
  clear H1 H2 H3
  go_enter Tryz.func164, Tryz.ntmps164
  go_wp2_with (fail)
  clear hW
  refine wp_region_held_drew (S := fun w' => w'.cell? ⟨w.heap.size, 0, none⟩ = some (.slice none 0 0) ∧ w'.cell? ⟨w.heap.size, 1, none⟩ = some (.slice none 0 0) ∧ w'.cell? ⟨w.heap.size, 2, none⟩ = some (.slice none 0 0) ∧ w'.cell? ⟨w.heap.size, 3, none⟩ = some (.slice none 0 0) ∧ w'.cell? ⟨w.heap.size, 4, none⟩ = some (.slice none 0 0)) (by kernel_rfl) (five HS0.out.a) (fun hS0 => ?_)
  refine wpAnyH_take (i := 0) (v := ?_) rfl (by kernel_rfl) (by kernel_rfl) (by kernel_rfl) (fun _ _ _ h => h) (Or.inl ⟨by rfl, ?_⟩) (by assumption) ?_
  rotate_left
  · intro w hSw; (try dsimp only at hSw); go_simp; try with_reducible rfl
  try simp only [Act.put, List.setIfInBounds_toArray, List.set_cons_zero, List.set_cons_succ]
  refine wpAnyH_take (i := 1) (v := ?_) rfl (by kernel_rfl) (by kernel_rfl) (by kernel_rfl) (fun _ _ _ h => h) (Or.inl ⟨by rfl, ?_⟩) (by assumption) ?_
  rotate_left
  · intro w hSw; (try dsimp only at hSw); go_simp; try with_reducible rfl
  try simp only [Act.put, List.setIfInBounds_toArray, List.set_cons_zero, List.set_cons_succ]
  refine wpAnyH_take (i := 3) (v := ?_) rfl (by kernel_rfl) (by kernel_rfl) (by kernel_rfl) (fun _ _ _ h => h) (Or.inl ⟨by rfl, ?_⟩) (by assumption) ?_
  rotate_left
  · intro w hSw; (try dsimp only at hSw); go_simp; try with_reducible rfl
  try simp only [Act.put, List.setIfInBounds_toArray, List.set_cons_zero, List.set_cons_succ]
  refine wpAnyH_take (i := 4) (v := ?_) rfl (by kernel_rfl) (by kernel_rfl) (by kernel_rfl) (fun _ _ _ h => h) (Or.inl ⟨by rfl, ?_⟩) (by assumption) ?_
  rotate_left
  · intro w hSw; (try dsimp only at hSw); go_simp; try with_reducible rfl
  try simp only [Act.put, List.setIfInBounds_toArray, List.set_cons_zero, List.set_cons_succ]
  refine wpAnyH_take (i := 6) (v := ?_) rfl (by kernel_rfl) (by kernel_rfl) (by kernel_rfl) (fun _ _ _ h => h) (Or.inl ⟨by rfl, ?_⟩) (by assumption) ?_
  rotate_left
  · intro w hSw; (try dsimp only at hSw); go_simp; try with_reducible rfl
  try simp only [Act.put, List.setIfInBounds_toArray, List.set_cons_zero, List.set_cons_succ]
  refine wpAnyH_take (i := 7) (v := ?_) rfl (by kernel_rfl) (by kernel_rfl) (by kernel_rfl) (fun _ _ _ h => h) (Or.inl ⟨by rfl, ?_⟩) (by assumption) ?_
  rotate_left
  · intro w hSw; (try dsimp only at hSw); go_simp; try with_reducible rfl
  try simp only [Act.put, List.setIfInBounds_toArray, List.set_cons_zero, List.set_cons_succ]
  refine wpAnyH_take (i := 9) (v := ?_) rfl (by kernel_rfl) (by kernel_rfl) (by kernel_rfl) (fun _ _ _ h => h) (Or.inl ⟨by rfl, ?_⟩) (by assumption) ?_
  rotate_left
  · intro w hSw; (try dsimp only at hSw); go_simp; try with_reducible rfl
  try simp only [Act.put, List.setIfInBounds_toArray, List.set_cons_zero, List.set_cons_succ]
  refine wpAnyH_take (i := 10) (v := ?_) rfl (by kernel_rfl) (by kernel_rfl) (by kernel_rfl) (fun _ _ _ h => h) (Or.inl ⟨by rfl, ?_⟩) (by assumption) ?_
  rotate_left
  · intro w hSw; (try dsimp only at hSw); go_simp; try with_reducible rfl
  try simp only [Act.put, List.setIfInBounds_toArray, List.set_cons_zero, List.set_cons_succ]
  refine wpAnyH_take (i := 12) (v := ?_) rfl (by kernel_rfl) (by kernel_rfl) (by kernel_rfl) (fun _ _ _ h => h) (Or.inl ⟨by rfl, ?_⟩) (by assumption) ?_
  rotate_left
  · intro w hSw; (try dsimp only at hSw); go_simp; try with_reducible rfl
  try simp only [Act.put, List.setIfInBounds_toArray, List.set_cons_zero, List.set_cons_succ]
  refine wpAnyH_take (i := 13) (v := ?_) rfl (by kernel_rfl) (by kernel_rfl) (by kernel_rfl) (fun _ _ _ h => h) (Or.inl ⟨by rfl, ?_⟩) (by assumption) ?_
  rotate_left
  · intro w hSw; (try dsimp only at hSw); go_simp; try with_reducible rfl
  try simp only [Act.put, List.setIfInBounds_toArray, List.set_cons_zero, List.set_cons_succ]
  refine wpAnyH_ready (rs := [2]) (by kernel_rfl) (by simp) ?_
  refine AllReadyH.cons rfl (fun K hK => ?_) AllReadyH.nil
  go_simp
  refine (of_nil_unit _ _).mono ?_
  rintro e w1 ⟨⟨g1, rfl⟩, hb⟩
  have HS1 := Lib.hid (Sc.next HS0.out hb rfl)
  clear hb
  refine hK _ _ (five HS1.out.a) (fun hS1 => ?_)
  clear hK K
  refine wpAnyH_ready (rs := [5]) (by kernel_rfl) (by simp) ?_
  refine AllReadyH.cons rfl (fun K hK => ?_) AllReadyH.nil
  go_simp
  refine (of_nil_item _ _).mono ?_
  rintro e w2 ⟨⟨g2, rfl⟩, hb⟩
  have HS2 := Lib.hid (Sc.next HS1.out hb rfl)
  clear hb
  refine hK _ _ (five HS2.out.a) (fun hS2 => ?_)
  clear hK K
  refine wpAnyH_ready (rs := [8]) (by kernel_rfl) (by simp) ?_
  refine AllReadyH.cons rfl (fun K hK => ?_) AllReadyH.nil
  go_simp
  refine (of_nil_str _ _).mono ?_
  rintro e w3 ⟨⟨g3, rfl⟩, hb⟩
  have HS3 := Lib.hid (Sc.next HS2.out hb rfl)
  clear hb
  refine hK _ _ (five HS3.out.a) (fun hS3 => ?_)
  clear hK K
  refine wpAnyH_ready (rs := [11]) (by kernel_rfl) (by simp) ?_
  refine AllReadyH.cons rfl (fun K hK => ?_) AllReadyH.nil
  go_simp
  refine (of_nil_machine _ _).mono ?_
  rintro e w4 ⟨⟨g4, rfl⟩, hb⟩
  have HS4 := Lib.hid (Sc.next HS3.out hb rfl)
  clear hb
  refine hK _ _ (five HS4.out.a) (fun hS4 => ?_)
  clear hK K
  refine wpAnyH_ready (rs := [14]) (by kernel_rfl) (by simp) ?_
  refine AllReadyH.cons rfl (fun K hK => ?_) AllReadyH.nil
  go_simp
  refine (of_nil_option _ _).mono ?_
  rintro e w5 ⟨⟨g5, rfl⟩, hb⟩
  have HS5 := Lib.hid (Sc.next HS4.out hb rfl)
  clear hb
  refine hK _ _ (five HS5.out.a) (fun hS5 => ?_)
  clear hK K
  refine wpAnyH_take (i := 15) (v := ?_) rfl (by kernel_rfl) (by kernel_rfl) (by kernel_rfl) (fun _ _ _ h => h) (Or.inl ⟨by rfl, ?_⟩) (by assumption) ?_
  rotate_left
  · intro w hSw; (try dsimp only at hSw); go_simp; try with_reducible rfl
  try simp only [Act.put, List.setIfInBounds_toArray, List.set_cons_zero, List.set_cons_succ]
  have r0 := HS5.out.b.cell (i := 0) rfl
  have r1 := HS5.out.b.cell (i := 1) rfl
  have r2 := HS5.out.b.cell (i := 2) rfl
  have r3 := HS5.out.b.cell (i := 3) rfl
  have r4 := HS5.out.b.cell (i := 4) rfl
  have r5 := HS5.out.b.cell (i := 5) rfl
  have r6 := HS5.out.b.cell (i := 6) rfl
  have r7 := HS5.out.b.cell (i := 7) rfl
  have r8 := HS5.out.b.cell (i := 8) rfl
  have r9 := HS5.out.b.cell (i := 9) rfl
  have r10 := HS5.out.b.cell (i := 10) rfl
  have fr := HS5.out.b.frozen
  refine wpAnyH_ready (rs := [16]) (by kernel_rfl) (by simp) ?_
  refine AllReadyH.cons rfl (fun K hK => ?_) AllReadyH.nil
  go_simp
  obtain ⟨W2, hW2, HA2, HB2, HW2⟩ := book_fill HS5.out g1 g2 g3 g4 g5
  rw [hW2]
  refine hK _ _ (five HA2.out) (fun hS9 => ?_)
  clear hK K hW2 r0 r1 r2 r3 r4 r5 r6 r7 r8 r9 r10 fr
  refine wpAnyH_done (by kernel_rfl) ?_ _
  have b0 := HB2.out.cell (i := 0) rfl
  have b1 := HB2.out.cell (i := 1) rfl
  have b2 := HB2.out.cell (i := 2) rfl
  have b3 := HB2.out.cell (i := 3) rfl
  have b4 := HB2.out.cell (i := 4) rfl
  have b5 := HB2.out.cell (i := 5) rfl
  have b6 := HB2.out.cell (i := 6) rfl
  have b7 := HB2.out.cell (i := 7) rfl
  have b8 := HB2.out.cell (i := 8) rfl
  have b9 := HB2.out.cell (i := 9) rfl
  have b10 := HB2.out.cell (i := 10) rfl
  have fr := HB2.out.frozen
  have a4 := HA2.out.cell (i := 4) rfl
  go_wp2
  refine wp_loop_rounds 1 ?_
  rw [rounds_succ]
  go_wp2
  obtain ⟨W3, hW3, HB3, HW3⟩ := book_refill HA2.out HB2.out HW2.out
  rw [hW3]
  clear hW3 fr b0 b1 b2 b3 b4 b5 b6 b7 b8 b9 b10
  have b0 := HB3.out.cell (i := 0) rfl
  have b1 := HB3.out.cell (i := 1) rfl
  have b2 := HB3.out.cell (i := 2) rfl
  have b3 := HB3.out.cell (i := 3) rfl
  have b4 := HB3.out.cell (i := 4) rfl
  have b5 := HB3.out.cell (i := 5) rfl
  have b6 := HB3.out.cell (i := 6) rfl
  have b7 := HB3.out.cell (i := 7) rfl
  have b8 := HB3.out.cell (i := 8) rfl
  have b9 := HB3.out.cell (i := 9) rfl
  have b10 := HB3.out.cell (i := 10) rfl
  refine bodyPost_ret (v := .tuple #[.agg #[.map (some g1), .bool false, .map (some g2), .bool false, .map (some g3), .bool false, .map (some g4), .bool false, .map (some g5), .bool false, .slice none 0 0], .bool false]) (by simp [results, Tryz.results164, go_sem, b0, b1, b2, b3, b4, b5, b6, b7, b8, b9, b10]) rfl ⟨⟨g1, g2, g3, g4, g5, rfl⟩, HW3.out⟩
end Go.Proofs.YteggbpaljmopoaaGreat
/- units.Resolve, units.Check, the equality of two sources, where there is nothing. PRINTED BY wip/gen_empty2.py -/
namespace Go.Proofs.YteggbpaljmopoaaGreat
open Go.RowKit BF
set_option maxRecDepth 100000 in
set_option maxHeartbeats 1000000 in
theorem uresolve_nil (w : World) : Calls Tryz.prog 165 #[.slice none 0 0] w fun e w' => e = .returned (.tuple #[.slice none 0 0, .int .i64 0]) ∧ Below w.heap.size w w' := by
  go_enter Tryz.func165, Tryz.ntmps165
  go_wp2_with (fail)
  refine wp_loop_rounds 1 ?_
  rw [rounds_succ]
  go_wp2_with (fail)
  refine wp_loop_rounds 1 ?_
  rw [rounds_succ]
  go_wp2_with (fail)
  go_ret2
  exact ⟨rfl, by repeat (first | exact Below.refl _ _ | refine Below.setCell ?_ (by simp <;> omega) _ | refine Below.alloc ?_ (by simp <;> omega) _)⟩
set_option maxRecDepth 100000 in
theorem eq_unit_nil (p q : Option Addr) (c d : Nat) (w : World) : Calls Tryz.prog 125 #[.slice p 0 c, .slice q 0 d] w fun e w' => e = .returned (.bool true) ∧ w' = w := by
  go_enter Tryz.func125, Tryz.ntmps125
  go_wp2_with (fail)
  refine wp_loop_rounds 1 ?_
  rw [rounds_succ]
  go_wp2_with (fail)
  go_ret
  exact ⟨rfl, rfl⟩
set_option maxRecDepth 100000 in
theorem eq_item_nil (p q : Option Addr) (c d : Nat) (w : World) : Calls Tryz.prog 126 #[.slice p 0 c, .slice q 0 d] w fun e w' => e = .returned (.bool true) ∧ w' = w := by
  go_enter Tryz.func126, Tryz.ntmps126
  go_wp2_with (fail)
  refine wp_loop_rounds 1 ?_
  rw [rounds_succ]
  go_wp2_with (fail)
  go_ret
  exact ⟨rfl, rfl⟩
set_option maxRecDepth 100000 in
theorem eq_str_nil (p q : Option Addr) (c d : Nat) (w : World) : Calls Tryz.prog 120 #[.slice p 0 c, .slice q 0 d] w fun e w' => e = .returned (.bool true) ∧ w' = w := by
  go_enter Tryz.func120, Tryz.ntmps120
  go_wp2_with (fail)
  refine wp_loop_rounds 1 ?_
  rw [rounds_succ]
  go_wp2_with (fail)
  go_ret
  exact ⟨rfl, rfl⟩
set_option maxRecDepth 100000 in
theorem eq_machine_nil (p q : Option Addr) (c d : Nat) (w : World) : Calls Tryz.prog 127 #[.slice p 0 c, .slice q 0 d] w fun e w' => e = .returned (.bool true) ∧ w' = w := by
  go_enter Tryz.func127, Tryz.ntmps127
  go_wp2_with (fail)
  refine wp_loop_rounds 1 ?_
  rw [rounds_succ]
  go_wp2_with (fail)
  go_ret
  exact ⟨rfl, rfl⟩
set_option maxRecDepth 100000 in
theorem eq_swap_nil (p q : Option Addr) (c d : Nat) (w : World) : Calls Tryz.prog 131 #[.slice p 0 c, .slice q 0 d] w fun e w' => e = .returned (.bool true) ∧ w' = w := by
  go_enter Tryz.func131, Tryz.ntmps131
  go_wp2_with (fail)
  refine wp_loop_rounds 1 ?_
  rw [rounds_succ]
  go_wp2_with (fail)
  go_ret
  exact ⟨rfl, rfl⟩
set_option maxRecDepth 100000 in
theorem eq_inst_nil (p q : Option Addr) (c d : Nat) (w : World) : Calls Tryz.prog 82 #[.slice p 0 c, .slice q 0 d] w fun e w' => e = .returned (.bool true) ∧ w' = w := by
  go_enter Tryz.func82, Tryz.ntmps82
  go_wp2_with (fail)
  refine wp_loop_rounds 1 ?_
  rw [rounds_succ]
  go_wp2_with (fail)
  go_ret
  exact ⟨rfl, rfl⟩
set_option maxRecDepth 100000 in
theorem eq_int_nil (p q : Option Addr) (c d : Nat) (w : World) : Calls Tryz.prog 84 #[.slice p 0 c, .slice q 0 d] w fun e w' => e = .returned (.bool true) ∧ w' = w := by
  go_enter Tryz.func84, Tryz.ntmps84
  go_wp2_with (fail)
  refine wp_loop_rounds 1 ?_
  rw [rounds_succ]
  go_wp2_with (fail)
  go_ret
  exact ⟨rfl, rfl⟩
set_option maxRecDepth 100000 in
theorem eqf_option_nil (p q : Option Addr) (c d : Nat) (f : Value) (w : World) : Calls Tryz.prog 128 #[.slice p 0 c, .slice q 0 d, f] w fun e w' => e = .returned (.bool true) ∧ w' = w := by
  go_enter Tryz.func128, Tryz.ntmps128
  go_wp2_with (fail)
  refine wp_loop_rounds 1 ?_
  rw [rounds_succ]
  go_wp2_with (fail)
  go_ret
  exact ⟨rfl, rfl⟩
set_option maxRecDepth 100000 in
theorem eqf_conds_nil (p q : Option Addr) (c d : Nat) (f : Value) (w : World) : Calls Tryz.prog 129 #[.slice p 0 c, .slice q 0 d, f] w fun e w' => e = .returned (.bool true) ∧ w' = w := by
  go_enter Tryz.func129, Tryz.ntmps129
  go_wp2_with (fail)
  refine wp_loop_rounds 1 ?_
  rw [rounds_succ]
  go_wp2_with (fail)
  go_ret
  exact ⟨rfl, rfl⟩
set_option maxRecDepth 100000 in
theorem eqf_recipe_nil (p q : Option Addr) (c d : Nat) (f : Value) (w : World) : Calls Tryz.prog 130 #[.slice p 0 c, .slice q 0 d, f] w fun e w' => e = .returned (.bool true) ∧ w' = w := by
  go_enter Tryz.func130, Tryz.ntmps130
  go_wp2_with (fail)
  refine wp_loop_rounds 1 ?_
  rw [rounds_succ]
  go_wp2_with (fail)
  go_ret
  exact ⟨rfl, rfl⟩
set_option maxRecDepth 100000 in
theorem eqf_code_nil (p q : Option Addr) (c d : Nat) (f : Value) (w : World) : Calls Tryz.prog 85 #[.slice p 0 c, .slice q 0 d, f] w fun e w' => e = .returned (.bool true) ∧ w' = w := by
  go_enter Tryz.func85, Tryz.ntmps85
  go_wp2_with (fail)
  refine wp_loop_rounds 1 ?_
  rw [rounds_succ]
  go_wp2_with (fail)
  go_ret
  exact ⟨rfl, rfl⟩
set_option maxRecDepth 100000 in
set_option maxHeartbeats 1000000 in
theorem same_nil (w : World) : Calls Tryz.prog 83 #[.agg #[.slice none 0 0, .slice none 0 0, .slice none 0 0, .slice none 0 0, .slice none 0 0, .slice none 0 0, .slice none 0 0, .slice none 0 0], .agg #[.slice none 0 0, .slice none 0 0, .slice none 0 0, .slice none 0 0, .slice none 0 0, .slice none 0 0, .slice none 0 0, .slice none 0 0]] w fun e w' => e = .returned (.bool true) ∧ Below w.heap.size w w' := by
  go_enter Tryz.func83, Tryz.ntmps83
  go_wp2_with (fail)
  refine (eq_unit_nil _ _ _ _ _).mono ?_
  rintro e w1 ⟨rfl, rfl⟩
  go_wp2_with (fail)
  refine (eq_item_nil _ _ _ _ _).mono ?_
  rintro e w1 ⟨rfl, rfl⟩
  go_wp2_with (fail)
  refine (eq_str_nil _ _ _ _ _).mono ?_
  rintro e w1 ⟨rfl, rfl⟩
  go_wp2_with (fail)
  refine (eq_machine_nil _ _ _ _ _).mono ?_
  rintro e w1 ⟨rfl, rfl⟩
  go_wp2_with (fail)
  refine (eqf_option_nil _ _ _ _ _ _).mono ?_
  rintro e w1 ⟨rfl, rfl⟩
  go_wp2_with (fail)
  refine (eqf_conds_nil _ _ _ _ _ _).mono ?_
  rintro e w1 ⟨rfl, rfl⟩
  go_wp2_with (fail)
  refine (eqf_recipe_nil _ _ _ _ _ _).mono ?_
  rintro e w1 ⟨rfl, rfl⟩
  go_wp2_with (fail)
  refine (eq_swap_nil _ _ _ _ _).mono ?_
  rintro e w1 ⟨rfl, rfl⟩
  go_wp2_with (fail)
  go_ret
  exact ⟨rfl, by repeat (first | exact Below.refl _ _ | refine Below.setCell ?_ (by simp <;> omega) _ | refine Below.alloc ?_ (by simp <;> omega) _)⟩
end Go.Proofs.YteggbpaljmopoaaGreat
/- units.Check, names.Resolve, where there is nothing. PRINTED BY wip/gen_resolve.py -/
namespace Go.Proofs.YteggbpaljmopoaaGreat
open Go.RowKit BF
set_option maxRecDepth 100000 in
set_option maxHeartbeats 1000000 in
theorem ucheck_nil (w : World) : Calls Tryz.prog 144 #[.slice none 0 0] w fun e w' => e = .returned (.int .i64 0) ∧ Below w.heap.size w w' := by
  go_enter Tryz.func144, Tryz.ntmps144
  go_wp2_with (fail)
  refine (uresolve_nil _).mono ?_
  rintro e w1 ⟨rfl, hb⟩
  go_wp2_with (fail)
  refine (eq_unit_nil _ _ _ _ _).mono ?_
  rintro e w2 ⟨rfl, rfl⟩
  go_wp2_with (fail)
  go_ret
  exact ⟨rfl, hb⟩
/-- what lies while names.Resolve runs -/
structure Rs (w W : World) : Prop where
  s : Blk W w.heap.size 53 #[.slice none 0 0, .slice none 0 0, .slice none 0 0, .slice none 0 0, .slice none 0 0, .slice none 0 0, .slice none 0 0, .slice none 0 0]
  x : Blk W (w.heap.size + 1) 53 #[.slice none 0 0, .slice none 0 0, .slice none 0 0, .slice none 0 0, .slice none 0 0, .slice none 0 0, .slice none 0 0, .slice none 0 0]
  e : Blk W (w.heap.size + 1 + 1) 31 #[.int .i64 0]
  c : Below w.heap.size w W
theorem Rs.next {w W W' : World} (h : Rs w W) (hb : Below W.heap.size W W') : Rs w W' := ⟨h.1.under hb, h.2.under hb, h.3.under hb, h.4.trans (hb.mono h.4.size)⟩
theorem resolve_boxes (w : World) : ∃ W, (((w.alloc (.cells #[.slice none 0 0, .slice none 0 0, .slice none 0 0, .slice none 0 0, .slice none 0 0, .slice none 0 0, .slice none 0 0, .slice none 0 0] 53)).alloc (.cells #[.slice none 0 0, .slice none 0 0, .slice none 0 0, .slice none 0 0, .slice none 0 0, .slice none 0 0, .slice none 0 0, .slice none 0 0] 53)).alloc (.cells #[.int .i64 0] 31)) = W ∧ Hid (Rs w W) :=
  ⟨_, rfl, ((Blk.new w _ _).alloc _).alloc _, (Blk.new' _ _ _ _ (by simp)).alloc _, Blk.new' _ _ _ _ (by simp), (((Below.refl _ w).alloc (Nat.le_refl _) _).alloc (by simp) _).alloc (by simp; omega) _⟩
theorem Rs.put {w W : World} (h : Rs w W) (i : Nat) (hi : i < 8) : ∃ W2, W.setCell ⟨w.heap.size, i, none⟩ (.slice none 0 0) = W2 ∧ Hid (Rs w W2) ∧ (∀ gb T vs, Blk W gb T vs → w.heap.size < gb → Blk W2 gb T vs) := by
  refine ⟨_, rfl, ⟨?_, h.2.other _ (by omega), h.3.other _ (by omega), h.4.setCell (by simp) _⟩, fun gb T vs hb hlt => hb.other _ (by omega)⟩
  have := h.1.set (i := i) (.slice none 0 0)
  have e : (#[.slice none 0 0, .slice none 0 0, .slice none 0 0, .slice none 0 0, .slice none 0 0, .slice none 0 0, .slice none 0 0, .slice none 0 0] : Array Value).setIfInBounds i (.slice none 0 0) = #[.slice none 0 0, .slice none 0 0, .slice none 0 0, .slice none 0 0, .slice none 0 0, .slice none 0 0, .slice none 0 0, .slice none 0 0] := by
    match i, hi with
    | 0, _ => rfl
    | 1, _ => rfl
    | 2, _ => rfl
    | 3, _ => rfl
    | 4, _ => rfl
    | 5, _ => rfl
    | 6, _ => rfl
    | 7, _ => rfl
  rwa [e] at this
theorem Rs.err {w W : World} (h : Rs w W) : ∃ W2, W.setCell ⟨w.heap.size + 1 + 1, 0, none⟩ (.int .i64 0) = W2 ∧ Hid (Rs w W2) ∧ (∀ gb T vs, Blk W gb T vs → w.heap.size + 1 + 1 < gb → Blk W2 gb T vs) :=
  ⟨_, rfl, ⟨h.1.other _ (by omega), h.2.other _ (by omega), h.3.set (i := 0) _, h.4.setCell (by simp; omega) _⟩, fun gb T vs hb hlt => hb.other _ (by omega)⟩
theorem fillx1 {w W : World} (h : Rs w W) (i : Nat) (hi : i < 8) : ∃ W2, W.setCell ⟨w.heap.size + 1, i, none⟩ (.slice none 0 0) = W2 ∧ Rs w W2 := by
  refine ⟨_, rfl, ⟨h.1.other _ (by omega), ?_, h.3.other _ (by omega), h.4.setCell (by simp) _⟩⟩
  have := h.2.set (i := i) (.slice none 0 0)
  have e : (#[.slice none 0 0, .slice none 0 0, .slice none 0 0, .slice none 0 0, .slice none 0 0, .slice none 0 0, .slice none 0 0, .slice none 0 0] : Array Value).setIfInBounds i (.slice none 0 0) = #[.slice none 0 0, .slice none 0 0, .slice none 0 0, .slice none 0 0, .slice none 0 0, .slice none 0 0, .slice none 0 0, .slice none 0 0] := by
    match i, hi with
    | 0, _ => rfl
    | 1, _ => rfl
    | 2, _ => rfl
    | 3, _ => rfl
    | 4, _ => rfl
    | 5, _ => rfl
    | 6, _ => rfl
    | 7, _ => rfl
  rwa [e] at this
theorem fillx {w W : World} (h : Rs w W) : ∃ W2, ((((((((W.setCell ⟨w.heap.size + 1, 0, none⟩ (.slice none 0 0)).setCell ⟨w.heap.size + 1, 1, none⟩ (.slice none 0 0)).setCell ⟨w.heap.size + 1, 2, none⟩ (.slice none 0 0)).setCell ⟨w.heap.size + 1, 3, none⟩ (.slice none 0 0)).setCell ⟨w.heap.size + 1, 4, none⟩ (.slice none 0 0)).setCell ⟨w.heap.size + 1, 5, none⟩ (.slice none 0 0)).setCell ⟨w.heap.size + 1, 6, none⟩ (.slice none 0 0)).setCell ⟨w.heap.size + 1, 7, none⟩ (.slice none 0 0)) = W2 ∧ Hid (Rs w W2) := by
  obtain ⟨W1, e1, h1⟩ := fillx1 h 0 (by decide)
  obtain ⟨W2, e2, h2⟩ := fillx1 h1 1 (by decide)
  obtain ⟨W3, e3, h3⟩ := fillx1 h2 2 (by decide)
  obtain ⟨W4, e4, h4⟩ := fillx1 h3 3 (by decide)
  obtain ⟨W5, e5, h5⟩ := fillx1 h4 4 (by decide)
  obtain ⟨W6, e6, h6⟩ := fillx1 h5 5 (by decide)
  obtain ⟨W7, e7, h7⟩ := fillx1 h6 6 (by decide)
  obtain ⟨W8, e8, h8⟩ := fillx1 h7 7 (by decide)
  exact ⟨W8, by rw [e1, e2, e3, e4, e5, e6, e7, e8], h8⟩
theorem resolve_idle (g h : Nat) (w : World) :
    CallsD Tryz.prog 166 #[.pointer (some ⟨g, 0, none⟩), .pointer (some ⟨h, 0, none⟩)] .returning w fun e u' w' => e = .returned (.tuple #[]) ∧ u' = .returning ∧ w' = w := by
  refine callsD_of_wpS Tryz.func166 rfl fun c₀ cs hu => ?_
  apply wpS_seq
  apply wpS_region
  simp [wpOpsS, go_sem, recoverD, hu, Tryz.ntmps166, Exit.thenS]
  refine wpS_of_wp ?_
  go_wp2
  cases c₀
  simp_all [bodyPostS, results, Tryz.results166]
set_option maxRecDepth 100000 in
set_option maxHeartbeats 2000000 in
theorem resolve_nil (w : World) : Calls Tryz.prog 143 #[.agg #[.slice none 0 0, .slice none 0 0, .slice none 0 0, .slice none 0 0, .slice none 0 0, .slice none 0 0, .slice none 0 0, .slice none 0 0]] w fun e w' => e = .returned (.tuple #[.agg #[.slice none 0 0, .slice none 0 0, .slice none 0 0, .slice none 0 0, .slice none 0 0, .slice none 0 0, .slice none 0 0, .slice none 0 0], .int .i64 0]) ∧ Below w.heap.size w w' := by
  obtain ⟨W0, hW0, H0⟩ := resolve_boxes w
  go_enter_defers Tryz.func143, Tryz.ntmps143
  have c0 := H0.out.s.cell (i := 0) rfl
  have c1 := H0.out.s.cell (i := 1) rfl
  have c2 := H0.out.s.cell (i := 2) rfl
  have c3 := H0.out.s.cell (i := 3) rfl
  have c4 := H0.out.s.cell (i := 4) rfl
  have c5 := H0.out.s.cell (i := 5) rfl
  have c6 := H0.out.s.cell (i := 6) rfl
  have c7 := H0.out.s.cell (i := 7) rfl
  go_wp2_with (fail)
  refine (collect_nil _).mono ?_
  rintro e w1 ⟨⟨g1, g2, g3, g4, g5, rfl⟩, hb⟩
  have H1 := Lib.hid (H0.out.next hb)
  clear hb hW0 c0 c1 c2 c3 c4 c5 c6 c7
  have HB2 : Hid (Blk (w1.alloc (.cells #[.map (some g1), .bool false, .map (some g2), .bool false, .map (some g3), .bool false, .map (some g4), .bool false, .map (some g5), .bool false, .slice none 0 0] 237)) w1.heap.size 237 #[.map (some g1), .bool false, .map (some g2), .bool false, .map (some g3), .bool false, .map (some g4), .bool false, .map (some g5), .bool false, .slice none 0 0]) := Blk.new w1 _ _
  have H2 : Hid (Rs w (w1.alloc (.cells #[.map (some g1), .bool false, .map (some g2), .bool false, .map (some g3), .bool false, .map (some g4), .bool false, .map (some g5), .bool false, .slice none 0 0] 237))) := ⟨H1.out.1.alloc _, H1.out.2.alloc _, H1.out.3.alloc _, H1.out.4.alloc H1.out.4.size _⟩
  have hgb : w.heap.size + 1 + 1 < w1.heap.size := H1.out.e.lt
  have c0 := H2.out.s.cell (i := 0) rfl
  have c1 := H2.out.s.cell (i := 1) rfl
  have c2 := H2.out.s.cell (i := 2) rfl
  have c3 := H2.out.s.cell (i := 3) rfl
  have c4 := H2.out.s.cell (i := 4) rfl
  have c5 := H2.out.s.cell (i := 5) rfl
  have c6 := H2.out.s.cell (i := 6) rfl
  have c7 := H2.out.s.cell (i := 7) rfl
  have c8 := H2.out.e.cell (i := 0) rfl
  have f0 := H2.out.s.frozen
  have f1 := H2.out.e.frozen
  go_wp2_with (fail)
  refine (uresolve_nil _).mono ?_
  rintro e w3 ⟨rfl, hb⟩
  have HB3 := Lib.hid (HB2.out.under hb)
  have H3 := Lib.hid (H2.out.next hb)
  clear hb c8 f0 f1 c0 c1 c2 c3 c4 c5 c6 c7
  have c0 := H3.out.s.cell (i := 0) rfl
  have c1 := H3.out.s.cell (i := 1) rfl
  have c2 := H3.out.s.cell (i := 2) rfl
  have c3 := H3.out.s.cell (i := 3) rfl
  have c4 := H3.out.s.cell (i := 4) rfl
  have c5 := H3.out.s.cell (i := 5) rfl
  have c6 := H3.out.s.cell (i := 6) rfl
  have c7 := H3.out.s.cell (i := 7) rfl
  have c8 := H3.out.e.cell (i := 0) rfl
  have f0 := H3.out.s.frozen
  have f1 := H3.out.e.frozen
  go_wp2_with (fail)
  obtain ⟨W4, hW4, H4, K4⟩ := H3.out.err
  have HB4 := Lib.hid (K4 _ _ _ HB3.out hgb)
  rw [hW4]
  obtain ⟨W5, hW5, H5, K5⟩ := H4.out.put 0 (by decide)
  have HB5 := Lib.hid (K5 _ _ _ HB4.out (by omega))
  rw [hW5]
  clear hW4 hW5 K4 K5 c8 f0 f1 c0 c1 c2 c3 c4 c5 c6 c7
  refine (numbered_nil_item _ _).mono ?_
  rintro e w6 ⟨rfl, hb⟩
  have HB6 := Lib.hid (HB5.out.under hb)
  have H6 := Lib.hid (H5.out.next hb)
  clear hb
  have c0 := H6.out.s.cell (i := 0) rfl
  have c1 := H6.out.s.cell (i := 1) rfl
  have c2 := H6.out.s.cell (i := 2) rfl
  have c3 := H6.out.s.cell (i := 3) rfl
  have c4 := H6.out.s.cell (i := 4) rfl
  have c5 := H6.out.s.cell (i := 5) rfl
  have c6 := H6.out.s.cell (i := 6) rfl
  have c7 := H6.out.s.cell (i := 7) rfl
  have f0 := H6.out.s.frozen
  go_wp2_with (fail)
  obtain ⟨W7, hW, H7, K⟩ := H6.out.put 1 (by decide)
  have HB7 := Lib.hid (K _ _ _ HB6.out (by omega))
  rw [hW]
  clear hW K f0 c0 c1 c2 c3 c4 c5 c6 c7
  refine (numbered_nil_machine _ _).mono ?_
  rintro e w8 ⟨rfl, hb⟩
  have HB8 := Lib.hid (HB7.out.under hb)
  have H8 := Lib.hid (H7.out.next hb)
  clear hb
  have c0 := H8.out.s.cell (i := 0) rfl
  have c1 := H8.out.s.cell (i := 1) rfl
  have c2 := H8.out.s.cell (i := 2) rfl
  have c3 := H8.out.s.cell (i := 3) rfl
  have c4 := H8.out.s.cell (i := 4) rfl
  have c5 := H8.out.s.cell (i := 5) rfl
  have c6 := H8.out.s.cell (i := 6) rfl
  have c7 := H8.out.s.cell (i := 7) rfl
  have f0 := H8.out.s.frozen
  go_wp2_with (fail)
  obtain ⟨W9, hW, H9, K⟩ := H8.out.put 3 (by decide)
  have HB9 := Lib.hid (K _ _ _ HB8.out (by omega))
  rw [hW]
  clear hW K f0 c0 c1 c2 c3 c4 c5 c6 c7
  refine (numbered_nil_conds _ _).mono ?_
  rintro e w10 ⟨rfl, hb⟩
  have HB10 := Lib.hid (HB9.out.under hb)
  have H10 := Lib.hid (H9.out.next hb)
  clear hb
  have c0 := H10.out.s.cell (i := 0) rfl
  have c1 := H10.out.s.cell (i := 1) rfl
  have c2 := H10.out.s.cell (i := 2) rfl
  have c3 := H10.out.s.cell (i := 3) rfl
  have c4 := H10.out.s.cell (i := 4) rfl
  have c5 := H10.out.s.cell (i := 5) rfl
  have c6 := H10.out.s.cell (i := 6) rfl
  have c7 := H10.out.s.cell (i := 7) rfl
  have f0 := H10.out.s.frozen
  have b0 := HB10.out.cell (i := 0) rfl
  have b1 := HB10.out.cell (i := 1) rfl
  have b2 := HB10.out.cell (i := 2) rfl
  have b3 := HB10.out.cell (i := 3) rfl
  have b4 := HB10.out.cell (i := 4) rfl
  have b5 := HB10.out.cell (i := 5) rfl
  have b6 := HB10.out.cell (i := 6) rfl
  have b7 := HB10.out.cell (i := 7) rfl
  have b8 := HB10.out.cell (i := 8) rfl
  have b9 := HB10.out.cell (i := 9) rfl
  have b10 := HB10.out.cell (i := 10) rfl
  go_wp2_with (fail)
  obtain ⟨W11, hW, H11, K⟩ := H10.out.put 5 (by decide)
  have HB11 := Lib.hid (K _ _ _ HB10.out (by omega))
  rw [hW]
  clear hW K f0 c0 c1 c2 c3 c4 c5 c6 c7 b0 b1 b2 b3 b4 b5 b6 b7 b8 b9 b10
  refine (numbered_nil_recipe _ _).mono ?_
  rintro e w12 ⟨rfl, hb⟩
  have HB12 := Lib.hid (HB11.out.under hb)
  have H12 := Lib.hid (H11.out.next hb)
  clear hb
  have c0 := H12.out.s.cell (i := 0) rfl
  have c1 := H12.out.s.cell (i := 1) rfl
  have c2 := H12.out.s.cell (i := 2) rfl
  have c3 := H12.out.s.cell (i := 3) rfl
  have c4 := H12.out.s.cell (i := 4) rfl
  have c5 := H12.out.s.cell (i := 5) rfl
  have c6 := H12.out.s.cell (i := 6) rfl
  have c7 := H12.out.s.cell (i := 7) rfl
  have f0 := H12.out.s.frozen
  go_wp2_with (fail)
  obtain ⟨W13, hW, H13, K⟩ := H12.out.put 6 (by decide)
  have HB13 := Lib.hid (K _ _ _ HB12.out (by omega))
  rw [hW]
  clear hW K f0 c0 c1 c2 c3 c4 c5 c6 c7
  refine (numbered_nil_swap _ _).mono ?_
  rintro e w14 ⟨rfl, hb⟩
  have HB14 := Lib.hid (HB13.out.under hb)
  have H14 := Lib.hid (H13.out.next hb)
  clear hb
  have c0 := H14.out.s.cell (i := 0) rfl
  have c1 := H14.out.s.cell (i := 1) rfl
  have c2 := H14.out.s.cell (i := 2) rfl
  have c3 := H14.out.s.cell (i := 3) rfl
  have c4 := H14.out.s.cell (i := 4) rfl
  have c5 := H14.out.s.cell (i := 5) rfl
  have c6 := H14.out.s.cell (i := 6) rfl
  have c7 := H14.out.s.cell (i := 7) rfl
  have f0 := H14.out.s.frozen
  have b0 := HB14.out.cell (i := 0) rfl
  have b1 := HB14.out.cell (i := 1) rfl
  have b2 := HB14.out.cell (i := 2) rfl
  have b3 := HB14.out.cell (i := 3) rfl
  have b4 := HB14.out.cell (i := 4) rfl
  have b5 := HB14.out.cell (i := 5) rfl
  have b6 := HB14.out.cell (i := 6) rfl
  have b7 := HB14.out.cell (i := 7) rfl
  have b8 := HB14.out.cell (i := 8) rfl
  have b9 := HB14.out.cell (i := 9) rfl
  have b10 := HB14.out.cell (i := 10) rfl
  have c8 := H14.out.e.cell (i := 0) rfl
  have f1 := H14.out.e.frozen
  have d0 := H14.out.x.cell (i := 0) rfl
  have d1 := H14.out.x.cell (i := 1) rfl
  have d2 := H14.out.x.cell (i := 2) rfl
  have d3 := H14.out.x.cell (i := 3) rfl
  have d4 := H14.out.x.cell (i := 4) rfl
  have d5 := H14.out.x.cell (i := 5) rfl
  have d6 := H14.out.x.cell (i := 6) rfl
  have d7 := H14.out.x.cell (i := 7) rfl
  have f2 := H14.out.x.frozen
  go_wp2_with (fail)
  obtain ⟨X1, hX, HX1, KX⟩ := H14.out.put 7 (by decide)
  rw [hX]
  obtain ⟨X2, hX2, HX2⟩ := fillx HX1.out
  rw [hX2]
  obtain ⟨X3, hX3, HX3, KX3⟩ := HX2.out.err
  rw [hX3]
  clear hX KX hX2 hX3 KX3 c8 f0 f1 f2 c0 c1 c2 c3 c4 c5 c6 c7 b0 b1 b2 b3 b4 b5 b6 b7 b8 b9 b10 d0 d1 d2 d3 d4 d5 d6 d7
  show Leaves _ _ _ _ _ _ _
  refine leaves_cons (f := 166) (args := #[.pointer (some ⟨w.heap.size + 1, 0, none⟩), .pointer (some ⟨w.heap.size + 1 + 1, 0, none⟩)]) (by simp) (by simp [go_sem]) ?_
  refine (resolve_idle _ _ X3).mono ?_
  rintro e u' w' ⟨rfl, rfl, rfl⟩
  have d0 := HX3.out.x.cell (i := 0) rfl
  have d1 := HX3.out.x.cell (i := 1) rfl
  have d2 := HX3.out.x.cell (i := 2) rfl
  have d3 := HX3.out.x.cell (i := 3) rfl
  have d4 := HX3.out.x.cell (i := 4) rfl
  have d5 := HX3.out.x.cell (i := 5) rfl
  have d6 := HX3.out.x.cell (i := 6) rfl
  have d7 := HX3.out.x.cell (i := 7) rfl
  have e0 := HX3.out.e.cell (i := 0) rfl
  have HF := Lib.hid HX3.out.c
  refine ⟨_, ?_, rfl, HF.out⟩
  simp [results, Tryz.results143, go_sem, d0, d1, d2, d3, d4, d5, d6, d7, e0]
end Go.Proofs.YteggbpaljmopoaaGreat
/- types.Check, recipes.resolved, where there is nothing. PRINTED BY wip/gen_empty3.py -/
namespace Go.Proofs.YteggbpaljmopoaaGreat
open Go.RowKit BF
set_option maxRecDepth 100000 in
theorem index_recipe_nil (p : Option Addr) (c : Nat) (f : Value) (w : World) : Calls Tryz.prog 234 #[.slice p 0 c, f] w fun e w' => e = .returned (.int .i64 (-1)) ∧ w' = w := by
  go_enter Tryz.func234, Tryz.ntmps234
  go_wp2_with (fail)
  refine wp_loop_rounds 1 ?_
  rw [rounds_succ]
  go_wp2_with (fail)
  go_ret
  exact ⟨rfl, rfl⟩
set_option maxRecDepth 100000 in
theorem contains_recipe_nil (p : Option Addr) (c : Nat) (f : Value) (w : World) : Calls Tryz.prog 180 #[.slice p 0 c, f] w fun e w' => e = .returned (.bool false) ∧ w' = w := by
  go_enter Tryz.func180, Tryz.ntmps180
  go_wp2_with (fail)
  refine (index_recipe_nil _ _ _ _).mono ?_
  rintro e w1 ⟨rfl, rfl⟩
  go_wp2_with (fail)
  go_ret
  exact ⟨rfl, rfl⟩
set_option maxRecDepth 100000 in
theorem index_option_nil (p : Option Addr) (c : Nat) (f : Value) (w : World) : Calls Tryz.prog 132 #[.slice p 0 c, f] w fun e w' => e = .returned (.int .i64 (-1)) ∧ w' = w := by
  go_enter Tryz.func132, Tryz.ntmps132
  go_wp2_with (fail)
  refine wp_loop_rounds 1 ?_
  rw [rounds_succ]
  go_wp2_with (fail)
  go_ret
  exact ⟨rfl, rfl⟩
set_option maxRecDepth 100000 in
theorem contains_option_nil (p : Option Addr) (c : Nat) (f : Value) (w : World) : Calls Tryz.prog 86 #[.slice p 0 c, f] w fun e w' => e = .returned (.bool false) ∧ w' = w := by
  go_enter Tryz.func86, Tryz.ntmps86
  go_wp2_with (fail)
  refine (index_option_nil _ _ _ _).mono ?_
  rintro e w1 ⟨rfl, rfl⟩
  go_wp2_with (fail)
  go_ret
  exact ⟨rfl, rfl⟩
set_option maxRecDepth 100000 in
theorem index_ints_nil (p : Option Addr) (c : Nat) (f : Value) (w : World) : Calls Tryz.prog 153 #[.slice p 0 c, f] w fun e w' => e = .returned (.int .i64 (-1)) ∧ w' = w := by
  go_enter Tryz.func153, Tryz.ntmps153
  go_wp2_with (fail)
  refine wp_loop_rounds 1 ?_
  rw [rounds_succ]
  go_wp2_with (fail)
  go_ret
  exact ⟨rfl, rfl⟩
set_option maxRecDepth 100000 in
theorem contains_ints_nil (p : Option Addr) (c : Nat) (f : Value) (w : World) : Calls Tryz.prog 112 #[.slice p 0 c, f] w fun e w' => e = .returned (.bool false) ∧ w' = w := by
  go_enter Tryz.func112, Tryz.ntmps112
  go_wp2_with (fail)
  refine (index_ints_nil _ _ _ _).mono ?_
  rintro e w1 ⟨rfl, rfl⟩
  go_wp2_with (fail)
  go_ret
  exact ⟨rfl, rfl⟩
set_option maxRecDepth 100000 in
theorem index_conds_nil (p : Option Addr) (c : Nat) (f : Value) (w : World) : Calls Tryz.prog 155 #[.slice p 0 c, f] w fun e w' => e = .returned (.int .i64 (-1)) ∧ w' = w := by
  go_enter Tryz.func155, Tryz.ntmps155
  go_wp2_with (fail)
  refine wp_loop_rounds 1 ?_
  rw [rounds_succ]
  go_wp2_with (fail)
  go_ret
  exact ⟨rfl, rfl⟩
set_option maxRecDepth 100000 in
theorem contains_conds_nil (p : Option Addr) (c : Nat) (f : Value) (w : World) : Calls Tryz.prog 133 #[.slice p 0 c, f] w fun e w' => e = .returned (.bool false) ∧ w' = w := by
  go_enter Tryz.func133, Tryz.ntmps133
  go_wp2_with (fail)
  refine (index_conds_nil _ _ _ _).mono ?_
  rintro e w1 ⟨rfl, rfl⟩
  go_wp2_with (fail)
  go_ret
  exact ⟨rfl, rfl⟩
set_option maxRecDepth 100000 in
set_option maxHeartbeats 2000000 in
theorem small_nil (w : World) : Calls Tryz.prog 145 #[.agg #[.slice none 0 0, .slice none 0 0, .slice none 0 0, .slice none 0 0, .slice none 0 0, .slice none 0 0, .slice none 0 0, .slice none 0 0]] w fun e w' => e = .returned (.bool true) ∧ Below w.heap.size w w' := by
  go_enter Tryz.func145, Tryz.ntmps145
  have HW : Hid (Below w.heap.size w (w.alloc (.cells #[.slice none 0 0, .slice none 0 0, .slice none 0 0, .slice none 0 0, .slice none 0 0, .slice none 0 0, .slice none 0 0, .slice none 0 0] 213))) := (Below.refl _ w).alloc (Nat.le_refl _) _
  have HB : Hid (Blk (w.alloc (.cells #[.slice none 0 0, .slice none 0 0, .slice none 0 0, .slice none 0 0, .slice none 0 0, .slice none 0 0, .slice none 0 0, .slice none 0 0] 213)) w.heap.size 213 #[.slice none 0 0, .slice none 0 0, .slice none 0 0, .slice none 0 0, .slice none 0 0, .slice none 0 0, .slice none 0 0, .slice none 0 0]) := Blk.new w _ _
  have a0 : ∀ w, (Instr.index 262 (.agg #[.int .i64 0, .int .i64 32, .int .i64 0, .int .i64 8, .int .i64 0, .int .i64 16, .int .i64 0, .int .i64 6, .int .i64 0, .int .i64 16, .int .i64 0, .int .i64 64, .int .i64 0, .int .i64 64]) (.int .i64 0)).run Tryz.prog w = .ok (.agg #[.int .i64 0, .int .i64 32]) w := fun _ => by kernel_rfl
  have a1 : ∀ w, (Instr.index 262 (.agg #[.int .i64 0, .int .i64 32, .int .i64 0, .int .i64 8, .int .i64 0, .int .i64 16, .int .i64 0, .int .i64 6, .int .i64 0, .int .i64 16, .int .i64 0, .int .i64 64, .int .i64 0, .int .i64 64]) (.int .i64 1)).run Tryz.prog w = .ok (.agg #[.int .i64 0, .int .i64 8]) w := fun _ => by kernel_rfl
  have a2 : ∀ w, (Instr.index 262 (.agg #[.int .i64 0, .int .i64 32, .int .i64 0, .int .i64 8, .int .i64 0, .int .i64 16, .int .i64 0, .int .i64 6, .int .i64 0, .int .i64 16, .int .i64 0, .int .i64 64, .int .i64 0, .int .i64 64]) (.int .i64 2)).run Tryz.prog w = .ok (.agg #[.int .i64 0, .int .i64 16]) w := fun _ => by kernel_rfl
  have a3 : ∀ w, (Instr.index 262 (.agg #[.int .i64 0, .int .i64 32, .int .i64 0, .int .i64 8, .int .i64 0, .int .i64 16, .int .i64 0, .int .i64 6, .int .i64 0, .int .i64 16, .int .i64 0, .int .i64 64, .int .i64 0, .int .i64 64]) (.int .i64 3)).run Tryz.prog w = .ok (.agg #[.int .i64 0, .int .i64 6]) w := fun _ => by kernel_rfl
  have a4 : ∀ w, (Instr.index 262 (.agg #[.int .i64 0, .int .i64 32, .int .i64 0, .int .i64 8, .int .i64 0, .int .i64 16, .int .i64 0, .int .i64 6, .int .i64 0, .int .i64 16, .int .i64 0, .int .i64 64, .int .i64 0, .int .i64 64]) (.int .i64 4)).run Tryz.prog w = .ok (.agg #[.int .i64 0, .int .i64 16]) w := fun _ => by kernel_rfl
  have a5 : ∀ w, (Instr.index 262 (.agg #[.int .i64 0, .int .i64 32, .int .i64 0, .int .i64 8, .int .i64 0, .int .i64 16, .int .i64 0, .int .i64 6, .int .i64 0, .int .i64 16, .int .i64 0, .int .i64 64, .int .i64 0, .int .i64 64]) (.int .i64 5)).run Tryz.prog w = .ok (.agg #[.int .i64 0, .int .i64 64]) w := fun _ => by kernel_rfl
  have a6 : ∀ w, (Instr.index 262 (.agg #[.int .i64 0, .int .i64 32, .int .i64 0, .int .i64 8, .int .i64 0, .int .i64 16, .int .i64 0, .int .i64 6, .int .i64 0, .int .i64 16, .int .i64 0, .int .i64 64, .int .i64 0, .int .i64 64]) (.int .i64 6)).run Tryz.prog w = .ok (.agg #[.int .i64 0, .int .i64 64]) w := fun _ => by kernel_rfl
  go_wp2; go_step3; go_wp2; go_step3; go_wp2
  go_loopw [36] (fun i wr => ∃ k : Nat, k ≤ 7 ∧ i = .int .i64 (k : Int) ∧ Hid (Below w.heap.size w wr) ∧ Hid (Blk wr w.heap.size 213 #[.slice none 0 0, .slice none 0 0, .slice none 0 0, .slice none 0 0, .slice none 0 0, .slice none 0 0, .slice none 0 0, .slice none 0 0])) (fun i _ => 7 - (intOf i).toNat)
  case atStart => exact ⟨0, by omega, rfl, HW.out, HB.out⟩
  case round =>
    obtain ⟨k, hk, rfl, HR, HC⟩ := hrel
    have hlt := HC.out.lt
    obtain rfl | rfl | rfl | rfl | rfl | rfl | rfl | rfl : k = 0 ∨ k = 1 ∨ k = 2 ∨ k = 3 ∨ k = 4 ∨ k = 5 ∨ k = 6 ∨ k = 7 := by omega
    · go_wp2
      go_roundw
      case rel => exact ⟨1, by omega, rfl, HR.out.alloc HR.out.size _, HC.out.alloc _⟩
      case measure => decide
    · go_wp2
      go_roundw
      case rel => exact ⟨2, by omega, rfl, HR.out.alloc HR.out.size _, HC.out.alloc _⟩
      case measure => decide
    · go_wp2
      go_roundw
      case rel => exact ⟨3, by omega, rfl, HR.out.alloc HR.out.size _, HC.out.alloc _⟩
      case measure => decide
    · go_wp2
      go_roundw
      case rel => exact ⟨4, by omega, rfl, HR.out.alloc HR.out.size _, HC.out.alloc _⟩
      case measure => decide
    · go_wp2
      go_roundw
      case rel => exact ⟨5, by omega, rfl, HR.out.alloc HR.out.size _, HC.out.alloc _⟩
      case measure => decide
    · go_wp2
      go_roundw
      case rel => exact ⟨6, by omega, rfl, HR.out.alloc HR.out.size _, HC.out.alloc _⟩
      case measure => decide
    · go_wp2
      go_roundw
      case rel => exact ⟨7, by omega, rfl, HR.out.alloc HR.out.size _, HC.out.alloc _⟩
      case measure => decide
    · have c4 := HC.out.cell (i := 4) rfl
      have c6 := HC.out.cell (i := 6) rfl
      go_wp2
      try rw [Exit.noGoto_normal]
      go_wp2
      refine wp_loop_rounds 1 ?_
      rw [rounds_succ]
      go_wp2_with (fail)
      refine (contains_recipe_nil _ _ _ _).mono ?_
      rintro e w2 ⟨rfl, rfl⟩
      go_wp2_with (fail)
      try rw [Exit.noGoto_ret]
      go_ret
      exact ⟨rfl, HR.out⟩
set_option maxRecDepth 100000 in
set_option maxHeartbeats 2000000 in
theorem typed_nil (w : World) : Calls Tryz.prog 146 #[.agg #[.slice none 0 0, .slice none 0 0, .slice none 0 0, .slice none 0 0, .slice none 0 0, .slice none 0 0, .slice none 0 0, .slice none 0 0]] w fun e w' => e = .returned (.bool true) ∧ Below w.heap.size w w' := by
  go_enter Tryz.func146, Tryz.ntmps146
  go_wp2_with (fail)
  refine wp_loop_rounds 1 ?_
  rw [rounds_succ]
  go_wp2_with (fail)
  refine wp_loop_rounds 1 ?_
  rw [rounds_succ]
  go_wp2_with (fail)
  refine (contains_option_nil _ _ _ _).mono ?_
  rintro e w1 ⟨rfl, rfl⟩
  go_wp2_with (fail)
  refine wp_loop_rounds 1 ?_
  rw [rounds_succ]
  go_wp2_with (fail)
  refine wp_loop_rounds 1 ?_
  rw [rounds_succ]
  go_wp2_with (fail)
  refine (contains_recipe_nil _ _ _ _).mono ?_
  rintro e w2 ⟨rfl, rfl⟩
  go_wp2_with (fail)
  go_ret
  exact ⟨rfl, by repeat (first | exact Below.refl _ _ | refine Below.setCell ?_ (by simp <;> omega) _ | refine Below.alloc ?_ (by simp <;> omega) _)⟩
set_option maxRecDepth 100000 in
set_option maxHeartbeats 2000000 in
theorem tcheck_nil (w : World) : Calls Tryz.prog 106 #[.agg #[.slice none 0 0, .slice none 0 0, .slice none 0 0, .slice none 0 0, .slice none 0 0, .slice none 0 0, .slice none 0 0, .slice none 0 0]] w fun e w' => e = .returned (.int .i64 0) ∧ Below w.heap.size w w' := by
  have HA : Hid (Blk (w.alloc (.cells #[.slice none 0 0, .slice none 0 0, .slice none 0 0, .slice none 0 0, .slice none 0 0, .slice none 0 0, .slice none 0 0, .slice none 0 0] 53)) w.heap.size 53 #[.slice none 0 0, .slice none 0 0, .slice none 0 0, .slice none 0 0, .slice none 0 0, .slice none 0 0, .slice none 0 0, .slice none 0 0]) := Blk.new w _ _
  have HW : Hid (Below w.heap.size w (w.alloc (.cells #[.slice none 0 0, .slice none 0 0, .slice none 0 0, .slice none 0 0, .slice none 0 0, .slice none 0 0, .slice none 0 0, .slice none 0 0] 53))) := (Below.refl _ w).alloc (Nat.le_refl _) _
  go_enter Tryz.func106, Tryz.ntmps106
  go_wp2_with (fail)
  refine (ucheck_nil _).mono ?_
  rintro e w1 ⟨rfl, hb⟩
  have HA1 := Lib.hid (HA.out.under hb)
  have HW1 := Lib.hid (HW.out.trans (hb.mono HW.out.size))
  clear hb
  have HX1 : Hid (Blk (w1.alloc (.cells #[.slice none 0 0, .slice none 0 0, .slice none 0 0, .slice none 0 0, .slice none 0 0, .slice none 0 0, .slice none 0 0, .slice none 0 0] 213)) w1.heap.size 213 #[.slice none 0 0, .slice none 0 0, .slice none 0 0, .slice none 0 0, .slice none 0 0, .slice none 0 0, .slice none 0 0, .slice none 0 0]) := Blk.new w1 _ _
  have HW2 : Hid (Below w.heap.size w (w1.alloc (.cells #[.slice none 0 0, .slice none 0 0, .slice none 0 0, .slice none 0 0, .slice none 0 0, .slice none 0 0, .slice none 0 0, .slice none 0 0] 213))) := HW1.out.alloc HW1.out.size _
  have c0 := HA1.out.cell (i := 0) rfl
  have c1 := HA1.out.cell (i := 1) rfl
  have c2 := HA1.out.cell (i := 2) rfl
  have c3 := HA1.out.cell (i := 3) rfl
  have c4 := HA1.out.cell (i := 4) rfl
  have c5 := HA1.out.cell (i := 5) rfl
  have c6 := HA1.out.cell (i := 6) rfl
  have c7 := HA1.out.cell (i := 7) rfl
  go_wp2_with (fail)
  refine (small_nil _).mono ?_
  rintro e w3 ⟨rfl, hb⟩
  have HX3 := Lib.hid (HX1.out.under hb)
  have HW3 := Lib.hid (HW2.out.trans (hb.mono HW2.out.size))
  clear hb c0 c1 c2 c3 c4 c5 c6 c7
  have c0 := HX3.out.cell (i := 0) rfl
  have c1 := HX3.out.cell (i := 1) rfl
  have c2 := HX3.out.cell (i := 2) rfl
  have c3 := HX3.out.cell (i := 3) rfl
  have c4 := HX3.out.cell (i := 4) rfl
  have c5 := HX3.out.cell (i := 5) rfl
  have c6 := HX3.out.cell (i := 6) rfl
  have c7 := HX3.out.cell (i := 7) rfl
  go_wp2_with (fail)
  refine (typed_nil _).mono ?_
  rintro e w4 ⟨rfl, hb⟩
  have HW4 := Lib.hid (HW3.out.trans (hb.mono HW3.out.size))
  clear hb
  go_wp2_with (fail)
  go_ret
  exact ⟨rfl, HW4.out⟩
end Go.Proofs.YteggbpaljmopoaaGreat
/- recipes.resolved, options, where there is nothing. PRINTED BY wip/gen_empty4.py -/
namespace Go.Proofs.YteggbpaljmopoaaGreat
open Go.RowKit BF
set_option maxRecDepth 100000 in
set_option maxHeartbeats 2000000 in
theorem resolved_nil (w : World) : Calls Tryz.prog 105 #[.agg #[.slice none 0 0, .slice none 0 0, .slice none 0 0, .slice none 0 0, .slice none 0 0, .slice none 0 0, .slice none 0 0, .slice none 0 0]] w fun e w' => e = .returned (.int .i64 0) ∧ Below w.heap.size w w' := by
  have HA : Hid (Blk (w.alloc (.cells #[.slice none 0 0, .slice none 0 0, .slice none 0 0, .slice none 0 0, .slice none 0 0, .slice none 0 0, .slice none 0 0, .slice none 0 0] 53)) w.heap.size 53 #[.slice none 0 0, .slice none 0 0, .slice none 0 0, .slice none 0 0, .slice none 0 0, .slice none 0 0, .slice none 0 0, .slice none 0 0]) := Blk.new w _ _
  have HW : Hid (Below w.heap.size w (w.alloc (.cells #[.slice none 0 0, .slice none 0 0, .slice none 0 0, .slice none 0 0, .slice none 0 0, .slice none 0 0, .slice none 0 0, .slice none 0 0] 53))) := (Below.refl _ w).alloc (Nat.le_refl _) _
  have c0 := HA.out.cell (i := 0) rfl
  have c1 := HA.out.cell (i := 1) rfl
  have c2 := HA.out.cell (i := 2) rfl
  have c3 := HA.out.cell (i := 3) rfl
  have c4 := HA.out.cell (i := 4) rfl
  have c5 := HA.out.cell (i := 5) rfl
  have c6 := HA.out.cell (i := 6) rfl
  have c7 := HA.out.cell (i := 7) rfl
  go_enter Tryz.func105, Tryz.ntmps105
  go_wp2_with (fail)
  refine (resolve_nil _).mono ?_
  rintro e w1 ⟨rfl, hb⟩
  have HA1 := Lib.hid (HA.out.under hb)
  have HW1 := Lib.hid (HW.out.trans (hb.mono HW.out.size))
  clear hb c0 c1 c2 c3 c4 c5 c6 c7
  have HX2 : Hid (Blk (w1.alloc (.cells #[.slice none 0 0, .slice none 0 0, .slice none 0 0, .slice none 0 0, .slice none 0 0, .slice none 0 0, .slice none 0 0, .slice none 0 0] 53)) w1.heap.size 53 #[.slice none 0 0, .slice none 0 0, .slice none 0 0, .slice none 0 0, .slice none 0 0, .slice none 0 0, .slice none 0 0, .slice none 0 0]) := Blk.new w1 _ _
  have HA2 := Lib.hid (HA1.out.alloc (.cells #[.slice none 0 0, .slice none 0 0, .slice none 0 0, .slice none 0 0, .slice none 0 0, .slice none 0 0, .slice none 0 0, .slice none 0 0] 53))
  have HW2 : Hid (Below w.heap.size w (w1.alloc (.cells #[.slice none 0 0, .slice none 0 0, .slice none 0 0, .slice none 0 0, .slice none 0 0, .slice none 0 0, .slice none 0 0, .slice none 0 0] 53))) := HW1.out.alloc HW1.out.size _
  have c0 := HA2.out.cell (i := 0) rfl
  have c1 := HA2.out.cell (i := 1) rfl
  have c2 := HA2.out.cell (i := 2) rfl
  have c3 := HA2.out.cell (i := 3) rfl
  have c4 := HA2.out.cell (i := 4) rfl
  have c5 := HA2.out.cell (i := 5) rfl
  have c6 := HA2.out.cell (i := 6) rfl
  have c7 := HA2.out.cell (i := 7) rfl
  go_wp2_with (fail)
  refine (same_nil _).mono ?_
  rintro e w3 ⟨rfl, hb⟩
  have HW3 := Lib.hid (HW2.out.trans (hb.mono HW2.out.size))
  clear hb c0 c1 c2 c3 c4 c5 c6 c7
  go_wp2_with (fail)
  go_ret
  exact ⟨rfl, HW3.out⟩
set_option maxRecDepth 100000 in
set_option maxHeartbeats 2000000 in
theorem ovalid_nil (w : World) : Calls Tryz.prog 55 #[.agg #[.slice none 0 0, .slice none 0 0, .slice none 0 0, .slice none 0 0, .slice none 0 0, .slice none 0 0, .slice none 0 0, .slice none 0 0]] w fun e w' => e = .returned (.bool true) ∧ Below w.heap.size w w' := by
  have HA : Hid (Blk (w.alloc (.cells #[.slice none 0 0, .slice none 0 0, .slice none 0 0, .slice none 0 0, .slice none 0 0, .slice none 0 0, .slice none 0 0, .slice none 0 0] 53)) w.heap.size 53 #[.slice none 0 0, .slice none 0 0, .slice none 0 0, .slice none 0 0, .slice none 0 0, .slice none 0 0, .slice none 0 0, .slice none 0 0]) := Blk.new w _ _
  have HW : Hid (Below w.heap.size w (w.alloc (.cells #[.slice none 0 0, .slice none 0 0, .slice none 0 0, .slice none 0 0, .slice none 0 0, .slice none 0 0, .slice none 0 0, .slice none 0 0] 53))) := (Below.refl _ w).alloc (Nat.le_refl _) _
  have c0 := HA.out.cell (i := 0) rfl
  have c1 := HA.out.cell (i := 1) rfl
  have c2 := HA.out.cell (i := 2) rfl
  have c3 := HA.out.cell (i := 3) rfl
  have c4 := HA.out.cell (i := 4) rfl
  have c5 := HA.out.cell (i := 5) rfl
  have c6 := HA.out.cell (i := 6) rfl
  have c7 := HA.out.cell (i := 7) rfl
  go_enter Tryz.func55, Tryz.ntmps55
  go_wp2_with (fail)
  refine (contains_option_nil _ _ _ _).mono ?_
  rintro e w1 ⟨rfl, rfl⟩
  go_wp2_with (fail)
  go_ret
  exact ⟨rfl, HW.out⟩
set_option maxRecDepth 100000 in
set_option maxHeartbeats 2000000 in
theorem oValid_nil (p : Option Addr) (c : Nat) (w : World) : Calls Tryz.prog 89 #[.agg #[.slice none 0 0, .slice none 0 0, .slice none 0 0, .slice none 0 0, .slice none 0 0, .slice none 0 0, .slice none 0 0, .slice none 0 0], .slice p 0 c] w fun e w' => e = .returned (.bool true) ∧ Below w.heap.size w w' := by
  have HA : Hid (Blk ((w.alloc (.cells #[.slice none 0 0, .slice none 0 0, .slice none 0 0, .slice none 0 0, .slice none 0 0, .slice none 0 0, .slice none 0 0, .slice none 0 0] 53)).alloc (.cells #[.slice p 0 c] 23)) w.heap.size 53 #[.slice none 0 0, .slice none 0 0, .slice none 0 0, .slice none 0 0, .slice none 0 0, .slice none 0 0, .slice none 0 0, .slice none 0 0]) := (Blk.new w _ _).alloc _
  have HC : Hid (Blk ((w.alloc (.cells #[.slice none 0 0, .slice none 0 0, .slice none 0 0, .slice none 0 0, .slice none 0 0, .slice none 0 0, .slice none 0 0, .slice none 0 0] 53)).alloc (.cells #[.slice p 0 c] 23)) (w.heap.size + 1) 23 #[.slice p 0 c]) := Blk.new' _ _ _ _ (by simp)
  have HW : Hid (Below w.heap.size w ((w.alloc (.cells #[.slice none 0 0, .slice none 0 0, .slice none 0 0, .slice none 0 0, .slice none 0 0, .slice none 0 0, .slice none 0 0, .slice none 0 0] 53)).alloc (.cells #[.slice p 0 c] 23))) := ((Below.refl _ w).alloc (Nat.le_refl _) _).alloc (by simp) _
  have c0 := HA.out.cell (i := 0) rfl
  have c1 := HA.out.cell (i := 1) rfl
  have c2 := HA.out.cell (i := 2) rfl
  have c3 := HA.out.cell (i := 3) rfl
  have c4 := HA.out.cell (i := 4) rfl
  have c5 := HA.out.cell (i := 5) rfl
  have c6 := HA.out.cell (i := 6) rfl
  have c7 := HA.out.cell (i := 7) rfl
  go_enter Tryz.func89, Tryz.ntmps89
  go_wp2_with (fail)
  refine (ovalid_nil _).mono ?_
  rintro e w1 ⟨rfl, hb⟩
  have HA1 := Lib.hid (HA.out.under hb)
  have HC1 := Lib.hid (HC.out.under hb)
  have HW1 := Lib.hid (HW.out.trans (hb.mono HW.out.size))
  clear hb c0 c1 c2 c3 c4 c5 c6 c7
  have c0 := HA1.out.cell (i := 0) rfl
  have c1 := HA1.out.cell (i := 1) rfl
  have c2 := HA1.out.cell (i := 2) rfl
  have c3 := HA1.out.cell (i := 3) rfl
  have c4 := HA1.out.cell (i := 4) rfl
  have c5 := HA1.out.cell (i := 5) rfl
  have c6 := HA1.out.cell (i := 6) rfl
  have c7 := HA1.out.cell (i := 7) rfl
  have d0 := HC1.out.cell (i := 0) rfl
  go_wp2_with (fail)
  refine wp_loop_rounds 1 ?_
  rw [rounds_succ]
  go_wp2_with (fail)
  refine (contains_conds_nil _ _ _ _).mono ?_
  rintro e w2 ⟨rfl, rfl⟩
  go_wp2_with (fail)
  go_ret
  exact ⟨rfl, HW1.out⟩
set_option maxRecDepth 100000 in
theorem ocode_nil (p : Option Addr) (c : Nat) (w : World) : Calls Tryz.prog 90 #[.slice p 0 c] w fun e w' => e = .returned (.int .i64 0) ∧ w' = w := by
  go_enter Tryz.func90, Tryz.ntmps90
  go_wp2_with (fail)
  refine wp_loop_rounds 1 ?_
  rw [rounds_succ]
  go_wp2_with (fail)
  go_ret
  exact ⟨rfl, rfl⟩
def CloneNil (w : World) (e : Ending) (w' : World) : Prop := (∃ p c, e = .returned (.slice p 0 c)) ∧ Below w.heap.size w w'
set_option maxRecDepth 100000 in
theorem clone_ints_nil (g o c : Nat) (w : World) : Calls Tryz.prog 91 #[.slice (some ⟨g, o, none⟩) 0 c] w (CloneNil w) := by
  have hnil := fun W => Lib.run_eql_slice_nil (P := Tryz.prog) W 23 3 (some ⟨g, o, none⟩) 0 c 0 0 Tryz.underlying23
  have hpure : ∀ w : World, (pure #[] : Sem (Array Value)).run Tryz.prog w = .ok #[] w := fun _ => rfl
  have hst0 : ∀ (a : Addr) (w : World), (storeCells a []).run Tryz.prog w = .ok () w := fun _ _ => rfl
  go_enter Tryz.func91, Tryz.ntmps91
  go_wp2_with (fail)
  go_ret
  exact ⟨⟨_, _, rfl⟩, by repeat (first | exact Below.refl _ _ | refine Below.setCell ?_ (by simp <;> omega) _ | refine Below.alloc ?_ (by simp <;> omega) _)⟩
end Go.Proofs.YteggbpaljmopoaaGreat
