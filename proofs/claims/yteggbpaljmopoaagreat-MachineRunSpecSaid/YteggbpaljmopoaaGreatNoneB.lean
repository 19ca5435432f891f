/- What the program makes of an empty source: second part. Conditions: those that each theorem states. -/
import Derived.Test.YteggbpaljmopoaaGreatNoneA
import Derived.RangeFuncBox
import Derived.RangeFuncNested
import Derived.RangeFuncBound
import Derived.RangeFuncCalls
import Derived.RangeFuncLeaves
import Derived.Shelf.Abstract
import Derived.Shelf.RegionOpen
import Derived.OwnWalkIn
import Derived.TacticsInMore
import Derived.LoopNIn
import Derived.LoopIn
set_option linter.unusedVariables false
set_option linter.unusedSimpArgs false
/- options.configurations where there is nothing: one configuration comes. -/
namespace Go.Proofs.YteggbpaljmopoaaGreat
open Go.RowKit BF Go.Shelf
attribute [local go_sem] Oper.semAt_some

/-- an empty slice -/
abbrev Emp := { x : Option Addr × Nat // True }
def Emp.v (x : Emp) : Value := .slice x.1.1 0 x.1.2
def encE (x : Emp) : Array Value := #[.int .i64 0, .slice x.1.1 0 x.1.2]
theorem grown_none {W W' : World} (h : Below W.heap.size W W') : W.grownBy W' none := ⟨h.os, h.tape, h.output, h.size, fun i hi _ => h.block i hi⟩

set_option maxRecDepth 100000 in
set_option maxHeartbeats 2000000 in
theorem cfg_in (n : Nat) (hn : 2 ≤ n) (Bs : Nat) (w : World) (hBs : Blk w Bs 53 #[.slice none 0 0, .slice none 0 0, .slice none 0 0, .slice none 0 0, .slice none 0 0, .slice none 0 0, .slice none 0 0, .slice none 0 0]) :
    SeqStopsK Fence.wide n Tryz.prog 88 #[.pointer (some ⟨Bs, 0, none⟩)] encE (fun _ _ => True) (fun ys => ∃ x, ys = [x]) (fun _ => True) 1 w := by
  intro l J Jx W hW hJ hJx hY h0
  have HB := Lib.hid (hBs.under hW)
  have H0 := Lib.hid h0
  have HJ : Hid (∀ W', Below W.heap.size W W' → J [] W') := fun W' hb => hJ _ _ _ none h0 (grown_none hb) (fun r e => by cases e)
  have hmk : ∀ w : World, (Instr.makeSlice 23 (.int .i64 0) (.int .i64 0)).run Tryz.prog w = .ok (.slice (some ⟨w.heap.size, 0, none⟩) 0 0) (w.alloc (.cells #[] 3)) := fun _ => by kernel_rfl
  have c4 := HB.out.cell (i := 4) rfl
  clear hW hBs h0
  refine callsIn_of_wp Tryz.func88 rfl trivial ?_ rfl
  simp only [Tryz.ntmps88, List.size_toArray, List.length_cons, List.length_nil, Nat.reduceAdd, Nat.reduceSub, Array.replicate_succ, Array.replicate_zero, List.push_toArray, List.append_toArray, List.nil_append, List.cons_append]
  obtain ⟨W1, hW1⟩ : ∃ W1, W.alloc (.cells #[] 3) = W1 := ⟨_, rfl⟩
  have HB1 : Hid (Blk W1 Bs 53 #[.slice none 0 0, .slice none 0 0, .slice none 0 0, .slice none 0 0, .slice none 0 0, .slice none 0 0, .slice none 0 0, .slice none 0 0]) := by rw [← hW1]; exact HB.out.alloc _
  have HW1 : Hid (Below W.heap.size W W1) := by rw [← hW1]; exact (Below.refl _ W).alloc (Nat.le_refl _) _
  gi_wp2
  refine wpIn_loop_rounds 1 ?_
  rw [roundsIn_succ]
  clear hW1 c4
  have c0 := HB1.out.cell (i := 0) rfl
  have c1 := HB1.out.cell (i := 1) rfl
  have c2 := HB1.out.cell (i := 2) rfl
  have c3 := HB1.out.cell (i := 3) rfl
  have c4 := HB1.out.cell (i := 4) rfl
  have c5 := HB1.out.cell (i := 5) rfl
  have c6 := HB1.out.cell (i := 6) rfl
  have c7 := HB1.out.cell (i := 7) rfl
  gi_wp2_with (fail)
  refine ⟨trivial, fun _ => by omega, ?_⟩
  refine (callsIn_wide.2 (oValid_nil _ _ _)).mono ?_
  rintro e w2 ⟨rfl, hb⟩
  have HW2 := Lib.hid (HW1.out.trans (hb.mono HW1.out.size))
  clear hb c0 c1 c2 c3 c4 c5 c6 c7
  gi_wp2_with (fail)
  refine ⟨trivial, fun _ => by omega, ?_⟩
  refine (callsIn_wide.2 (ocode_nil _ _ _)).mono ?_
  rintro e w3 ⟨rfl, rfl⟩
  gi_wp2_with (fail)
  refine ⟨trivial, fun _ => by omega, ?_⟩
  refine (callsIn_wide.2 (clone_ints_nil _ _ _ _)).mono ?_
  rintro e w4 ⟨⟨p, c, rfl⟩, hb⟩
  have HW4 := Lib.hid (HW2.out.trans (hb.mono HW2.out.size))
  clear hb
  obtain ⟨fn, tmps, assign, body, hy, hR⟩ := hY [] ⟨(p, c), trivial⟩ w4 (HJ.out _ HW4.out) (by decide)
  dsimp only [encE] at hy
  gi_wp2
  refine ⟨fun _ => by omega, ?_⟩
  refine hR.mono ?_
  rintro e W3 (⟨rfl, hJ3, _⟩ | ⟨rfl, hJx3⟩)
  · have HJD : Hid (∀ k, J ([] ++ [⟨(p, c), trivial⟩]) (W3.drewN k)) := fun k => hJ _ _ _ none hJ3 (grownBy_drewN (grownBy_refl W3 none) k) (fun r e => by cases e)
    clear hJ3
    have hd : decide ((0 : Int) ≤ -1) = false := by decide
    gi_wp2
    refine wpIn_wide.2 ?_
    go_wp2
    refine wp_loop_rounds 1 ?_
    rw [rounds_succ]
    go_wp2
    go_quiet (fail)
    go_wp2
    gi_wp2
    refine bodyPost_ret (results_none rfl _ _ _) rfl ?_
    exact ⟨⟨_, rfl⟩, .inl ⟨_, ⟨_, rfl⟩, HJD.out _⟩⟩
  · have HJX := Lib.hid hJx3
    clear hJx3
    gi_wp2
    refine bodyPost_ret (results_none rfl _ _ _) rfl ?_
    exact ⟨⟨_, rfl⟩, .inr ⟨_, trivial, HJX.out⟩⟩
end Go.Proofs.YteggbpaljmopoaaGreat
/- options.Config where there is nothing. PRINTED BY wip/gen_config.py -/
namespace Go.Proofs.YteggbpaljmopoaaGreat
open Go.RowKit BF Go.Shelf
attribute [local go_sem] Oper.semAt_some
def ConfigNil (w : World) (e : Ending) (w' : World) : Prop := (∃ p c, e = .returned (.tuple #[.slice p 0 c, .int .i64 0])) ∧ Below w.heap.size w w'
theorem configs_nil (w : World) : Calls Tryz.prog 56 #[.agg #[.slice none 0 0, .slice none 0 0, .slice none 0 0, .slice none 0 0, .slice none 0 0, .slice none 0 0, .slice none 0 0, .slice none 0 0]] w fun e w' => e = .returned (.func (.func 88) #[] #[.pointer (some ⟨w.heap.size, 0, none⟩)]) ∧ w' = w.alloc (.cells #[.slice none 0 0, .slice none 0 0, .slice none 0 0, .slice none 0 0, .slice none 0 0, .slice none 0 0, .slice none 0 0, .slice none 0 0] 53) := by
  go_enter Tryz.func56, Tryz.ntmps56
  go_wp2_with (fail)
  go_ret
  exact ⟨rfl, rfl⟩
structure CI (w W : World) (c : Value) (e : Int) : Prop where
  n : Blk W (w.heap.size + 1) 3 #[.int .i64 0]
  c : Blk W (w.heap.size + 1 + 1) 23 #[c]
  e : Blk W (w.heap.size + 1 + 1 + 1) 31 #[.int .i64 e]
  b : Below w.heap.size w W
theorem CI.kept {w W W' : World} {c : Value} {e : Int} {B : Nat} {row : Option Nat} (h : CI w W c e) (hB : w.heap.size + 1 + 1 + 1 < B) (hg : W.grownBy W' row) (hr : ∀ r, row = some r → B ≤ r) : CI w W' c e := by
  have hne : ∀ b, b < B → some b ≠ row := fun b hb he => by have := hr b he.symm; omega
  exact ⟨h.1.kept hg (hne _ (by omega)), h.2.kept hg (hne _ (by omega)), h.3.kept hg (hne _ hB), h.4.grown hg (Nat.le_trans (Nat.le_of_lt (Nat.lt_of_le_of_lt (by omega) h.3.lt)) (Nat.le_refl _)) (fun k hk => by have := hr k hk; omega)⟩
theorem CI.under {w W W' : World} {c : Value} {e : Int} (h : CI w W c e) (hb : Below W.heap.size W W') : CI w W' c e := ⟨h.1.under hb, h.2.under hb, h.3.under hb, h.4.trans (hb.mono h.4.size)⟩
theorem config_boxes (w : World) : ∃ W, ((((w.alloc (.cells #[.slice none 0 0, .slice none 0 0, .slice none 0 0, .slice none 0 0, .slice none 0 0, .slice none 0 0, .slice none 0 0, .slice none 0 0] 53)).alloc (.cells #[.int .i64 0] 3)).alloc (.cells #[.slice none 0 0] 23)).alloc (.cells #[.int .i64 0] 31)) = W ∧ Hid (Blk W w.heap.size 53 #[.slice none 0 0, .slice none 0 0, .slice none 0 0, .slice none 0 0, .slice none 0 0, .slice none 0 0, .slice none 0 0, .slice none 0 0]) ∧ Hid (CI w W (.slice none 0 0) 0) :=
  ⟨_, rfl, (((Blk.new w _ _).alloc _).alloc _).alloc _, ((Blk.new' _ _ _ _ (by simp)).alloc _).alloc _, (Blk.new' _ _ _ _ (by simp)).alloc _, Blk.new' _ _ _ _ (by simp),
    ((((Below.refl _ w).alloc (Nat.le_refl _) _).alloc (by simp) _).alloc (by simp; omega) _).alloc (by simp; omega) _⟩
set_option maxRecDepth 100000 in
set_option maxHeartbeats 2000000 in
theorem config_nil (w : World) : Calls Tryz.prog 31 #[.agg #[.slice none 0 0, .slice none 0 0, .slice none 0 0, .slice none 0 0, .slice none 0 0, .slice none 0 0, .slice none 0 0, .slice none 0 0], .int .i64 0] w (ConfigNil w) := by
  refine (callsIn_wide (n := 8)).1 ?_
  refine callsIn_of_wp_marks Tryz.func31 rfl trivial ?_ rfl
  simp only [Tryz.ntmps31, List.size_toArray, List.length_cons, List.length_nil, Nat.reduceAdd, Nat.reduceSub, Array.replicate_succ, Array.replicate_zero, List.push_toArray, List.append_toArray, List.nil_append, List.cons_append]
  obtain ⟨W0, hW0, HA0, HI0⟩ := config_boxes w
  have c0 := HA0.out.cell (i := 0) rfl
  have c1 := HA0.out.cell (i := 1) rfl
  have c2 := HA0.out.cell (i := 2) rfl
  have c3 := HA0.out.cell (i := 3) rfl
  have c4 := HA0.out.cell (i := 4) rfl
  have c5 := HA0.out.cell (i := 5) rfl
  have c6 := HA0.out.cell (i := 6) rfl
  have c7 := HA0.out.cell (i := 7) rfl
  gi_wp2_with (fail)
  refine ⟨trivial, ?_⟩
  refine (callsIn_wide.2 (ovalid_nil _)).mono ?_
  rintro e w1 ⟨rfl, hb⟩
  have HA1 := Lib.hid (HA0.out.under hb)
  have HI1 := Lib.hid (HI0.out.under hb)
  clear hb hW0 c0 c1 c2 c3 c4 c5 c6 c7
  have c0 := HA1.out.cell (i := 0) rfl
  have c1 := HA1.out.cell (i := 1) rfl
  have c2 := HA1.out.cell (i := 2) rfl
  have c3 := HA1.out.cell (i := 3) rfl
  have c4 := HA1.out.cell (i := 4) rfl
  have c5 := HA1.out.cell (i := 5) rfl
  have c6 := HA1.out.cell (i := 6) rfl
  have c7 := HA1.out.cell (i := 7) rfl
  gi_wp2_with (fail)
  refine ⟨trivial, ?_⟩
  refine (callsIn_wide.2 (configs_nil _)).mono ?_
  rintro e w2 ⟨rfl, rfl⟩
  have HX : Hid (Blk (w1.alloc (.cells #[.slice none 0 0, .slice none 0 0, .slice none 0 0, .slice none 0 0, .slice none 0 0, .slice none 0 0, .slice none 0 0, .slice none 0 0] 53)) w1.heap.size 53 #[.slice none 0 0, .slice none 0 0, .slice none 0 0, .slice none 0 0, .slice none 0 0, .slice none 0 0, .slice none 0 0, .slice none 0 0]) := Blk.new w1 _ _
  have HI2 := Lib.hid (HI1.out.under ((Below.refl _ w1).alloc (Nat.le_refl _) (.cells #[.slice none 0 0, .slice none 0 0, .slice none 0 0, .slice none 0 0, .slice none 0 0, .slice none 0 0, .slice none 0 0, .slice none 0 0] 53)))
  have hs : w.heap.size + 1 + 1 + 1 < w1.heap.size := HI1.out.e.lt
  clear c0 c1 c2 c3 c4 c5 c6 c7
  gi_wp2_with (fail)
  obtain ⟨W2, hW2⟩ : ∃ W2, w1.alloc (.cells #[.slice none 0 0, .slice none 0 0, .slice none 0 0, .slice none 0 0, .slice none 0 0, .slice none 0 0, .slice none 0 0, .slice none 0 0] 53) = W2 := ⟨_, rfl⟩
  have hs2 : W2.heap.size = w1.heap.size + 1 := by rw [← hW2]; simp
  rw [hW2] at HX HI2 ⊢
  clear hW2
  refine wpIn_rangeFunc_ownF rfl (by omega) (gf := 88) (lb := #[.pointer (some ⟨w1.heap.size, 0, none⟩)]) rfl trivial (enters_of Tryz.func88 (by kernel_rfl) rfl)
    (encs := encE) (Kp := fun _ _ => True) (S := fun ys => ∃ x, ys = [x]) (Sp := fun _ => True) (N := 1) (w0 := W2)
    (cfg_in 7 (by omega) w1.heap.size W2 HX.out) (fun _ _ => trivial) (fun _ _ _ _ _ _ _ _ => trivial) (Below.refl _ _) (fun _ => rfl)
    (fun pre W => pre = [] ∧ CI w W (.slice none 0 0) 0) (fun c _ W => c = .ret ∧ ∃ p c', CI w W (.slice p 0 c') 0)
    (fun s W W' row hs' hg hr => ⟨hs'.1, hs'.2.kept (B := W2.heap.size) (by omega) hg (fun r e => (hr r e).1)⟩)
    (fun c s W W' row hs' hg hr => ⟨hs'.1, by obtain ⟨p, c', h⟩ := hs'.2; exact ⟨p, c', h.kept (B := W2.heap.size) (by omega) hg (fun r e => (hr r e).1)⟩⟩)
    ⟨rfl, HI2.out⟩
    (fun x => { tmps := #[.agg #[.slice none 0 0, .slice none 0 0, .slice none 0 0, .slice none 0 0, .slice none 0 0, .slice none 0 0, .slice none 0 0, .slice none 0 0], .int .i64 0, .pointer (some ⟨w.heap.size, 0, none⟩), .pointer (some ⟨w.heap.size + 1, 0, none⟩), .pointer (some ⟨w.heap.size + 1 + 1, 0, none⟩), .pointer (some ⟨w.heap.size + 1 + 1 + 1, 0, none⟩), .int .i64 0, .slice x.1.1 0 x.1.2, .agg #[.slice none 0 0, .slice none 0 0, .slice none 0 0, .slice none 0 0, .slice none 0 0, .slice none 0 0, .slice none 0 0, .slice none 0 0], .bool true, .agg #[.slice none 0 0, .slice none 0 0, .slice none 0 0, .slice none 0 0, .slice none 0 0, .slice none 0 0, .slice none 0 0, .slice none 0 0], .func (.func 88) #[] #[.pointer (some ⟨w1.heap.size, 0, none⟩)], .int .i64 0, .slice x.1.1 0 x.1.2, undef, undef, undef, undef], defers := [] }) ?assign ?body ?done ?stop
  case assign =>
    intro l x W K hK
    simp only [encE]
    gi_wp2
    exact hK
  case body =>
    rintro l pre ⟨⟨p, c'⟩, _⟩ W ⟨rfl, hI⟩ hlen
    have HI := Lib.hid hI
    have n0 := hI.n.cell (i := 0) rfl
    have n1 := hI.c.cell (i := 0) rfl
    have n2 := hI.e.cell (i := 0) rfl
    have n3 := hI.c.frozen
    have n4 := hI.e.frozen
    clear hI
    gi_wp2
    exact ⟨(KeepsOthers.setCell _ _ _).trans (KeepsOthers.setCell _ _ _), rfl, p, c', (HI.out.n.other _ (by omega)).other _ (by omega), (HI.out.c.set (i := 0) _).other _ (by omega), (HI.out.e.other _ (by omega)).set (i := 0) _, (HI.out.b.setCell (by simp; omega) _).setCell (by simp; omega) _⟩
  case done =>
    rintro D ys W hD ⟨x, rfl⟩ ⟨h, _⟩
    cases h
  case stop =>
    rintro D c pre W hD _ ⟨rfl, p, c', hI⟩ hK
    have HIf : Hid (CI w (W.putObj D (.deferred none)) (.slice p 0 c') 0) := hI.kept (B := W2.heap.size) (by omega) (grownBy_putObj' W D (.deferred none)) (fun r e => by cases e; exact hD)
    have HK := Lib.hid hK
    clear hI hK
    gi_wp2
    refine ⟨by simp, .inl ⟨_, _, rfl, run_takeDeferred HK.out, ?_⟩⟩
    generalize World.putObj _ D (.deferred none) = Wf at *
    have n1 := HIf.out.c.cell (i := 0) rfl
    have n2 := HIf.out.e.cell (i := 0) rfl
    have HB := Lib.hid HIf.out.b
    refine ⟨_, ?_, ⟨p, c', rfl⟩, HB.out⟩
    simp [results, Tryz.results31, go_sem, n1, n2]
end Go.Proofs.YteggbpaljmopoaaGreat
