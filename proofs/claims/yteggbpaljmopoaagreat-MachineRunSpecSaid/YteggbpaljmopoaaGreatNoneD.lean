/- What the program makes of an empty source: fourth part. Conditions: those that each theorem states. -/
import Derived.Test.YteggbpaljmopoaaGreatNoneC
import Derived.Maps.AppendAt
set_option linter.unusedVariables false
set_option linter.unusedSimpArgs false
/- options.All where there is nothing. PRINTED BY wip/gen_all.py -/
namespace Go.Proofs.YteggbpaljmopoaaGreat
open Go.RowKit BF Go.Shelf
attribute [local go_sem] Oper.semAt_some
theorem info_ints : (Tryz.prog.info? 23).map (fun i => (i.zero, i.size, i.bytes)) = some (some (.slice none 0 0), 1, 24) := by kernel_rfl
def AllNil (w : World) (e : Ending) (w' : World) : Prop := (∃ p n c, e = .returned (.tuple #[.slice p n c, .int .i64 0])) ∧ Below w.heap.size w w'
structure AI (w W : World) (v : Value) : Prop where
  l : Blk W (w.heap.size + 1) 277 #[v]
  b : Below w.heap.size w W
theorem AI.under {w W W' : World} {v : Value} (h : AI w W v) (hb : Below W.heap.size W W') : AI w W' v := ⟨h.1.under hb, h.2.trans (hb.mono h.2.size)⟩
theorem AI.kept {w W W' : World} {v : Value} {B : Nat} {row : Option Nat} (h : AI w W v) (hB : w.heap.size + 1 < B) (hg : W.grownBy W' row) (hr : ∀ r, row = some r → B ≤ r) : AI w W' v := by
  have hne : ∀ b, b < B → some b ≠ row := fun b hb he => by have := hr b he.symm; omega
  exact ⟨h.1.kept hg (hne _ hB), h.2.grown hg (Nat.le_of_lt (Nat.lt_of_le_of_lt (by omega) h.1.lt)) (fun k hk => by have := hr k hk; omega)⟩
theorem all_boxes (w : World) : ∃ W, ((w.alloc (.cells #[.slice none 0 0, .slice none 0 0, .slice none 0 0, .slice none 0 0, .slice none 0 0, .slice none 0 0, .slice none 0 0, .slice none 0 0] 53)).alloc (.cells #[.slice none 0 0] 277)) = W ∧ Hid (Blk W w.heap.size 53 #[.slice none 0 0, .slice none 0 0, .slice none 0 0, .slice none 0 0, .slice none 0 0, .slice none 0 0, .slice none 0 0, .slice none 0 0]) ∧ Hid (AI w W (.slice none 0 0)) :=
  ⟨_, rfl, (Blk.new w _ _).alloc _, Blk.new' _ _ _ _ (by simp), ((Below.refl _ w).alloc (Nat.le_refl _) _).alloc (by simp) _⟩
set_option maxRecDepth 100000 in
set_option maxHeartbeats 2000000 in
theorem all_nil (w : World) : Calls Tryz.prog 195 #[.agg #[.slice none 0 0, .slice none 0 0, .slice none 0 0, .slice none 0 0, .slice none 0 0, .slice none 0 0, .slice none 0 0, .slice none 0 0]] w (AllNil w) := by
  refine (callsIn_wide (n := 8)).1 ?_
  refine callsIn_of_wp_marks Tryz.func195 rfl trivial ?_ rfl
  simp only [Tryz.ntmps195, List.size_toArray, List.length_cons, List.length_nil, Nat.reduceAdd, Nat.reduceSub, Array.replicate_succ, Array.replicate_zero, List.push_toArray, List.append_toArray, List.nil_append, List.cons_append]
  obtain ⟨i0, hi0, hz0, hz1, hz2⟩ := info_parts info_ints
  obtain ⟨W0, hW0, HA0, HI0⟩ := all_boxes w
  have c0 := HA0.out.cell (i := 0) rfl
  have c1 := HA0.out.cell (i := 1) rfl
  have c2 := HA0.out.cell (i := 2) rfl
  have c3 := HA0.out.cell (i := 3) rfl
  have c4 := HA0.out.cell (i := 4) rfl
  have c5 := HA0.out.cell (i := 5) rfl
  have c6 := HA0.out.cell (i := 6) rfl
  have c7 := HA0.out.cell (i := 7) rfl
  gi_wp2_with (fail)
  refine ⟨trivial, ?_⟩
  refine (callsIn_wide.2 (ovalid_nil _)).mono ?_
  rintro e w1 ⟨rfl, hb⟩
  have HA1 := Lib.hid (HA0.out.under hb)
  have HI1 := Lib.hid (HI0.out.under hb)
  clear hb hW0 c0 c1 c2 c3 c4 c5 c6 c7
  have c0 := HA1.out.cell (i := 0) rfl
  have c1 := HA1.out.cell (i := 1) rfl
  have c2 := HA1.out.cell (i := 2) rfl
  have c3 := HA1.out.cell (i := 3) rfl
  have c4 := HA1.out.cell (i := 4) rfl
  have c5 := HA1.out.cell (i := 5) rfl
  have c6 := HA1.out.cell (i := 6) rfl
  have c7 := HA1.out.cell (i := 7) rfl
  gi_wp2_with (fail)
  refine ⟨trivial, ?_⟩
  refine (callsIn_wide.2 (configs_nil _)).mono ?_
  rintro e w2 ⟨rfl, rfl⟩
  have HX : Hid (Blk (w1.alloc (.cells #[.slice none 0 0, .slice none 0 0, .slice none 0 0, .slice none 0 0, .slice none 0 0, .slice none 0 0, .slice none 0 0, .slice none 0 0] 53)) w1.heap.size 53 #[.slice none 0 0, .slice none 0 0, .slice none 0 0, .slice none 0 0, .slice none 0 0, .slice none 0 0, .slice none 0 0, .slice none 0 0]) := Blk.new w1 _ _
  have HI2 := Lib.hid (HI1.out.under ((Below.refl _ w1).alloc (Nat.le_refl _) (.cells #[.slice none 0 0, .slice none 0 0, .slice none 0 0, .slice none 0 0, .slice none 0 0, .slice none 0 0, .slice none 0 0, .slice none 0 0] 53)))
  have hs : w.heap.size + 1 < w1.heap.size := HI1.out.l.lt
  clear c0 c1 c2 c3 c4 c5 c6 c7
  gi_wp2_with (fail)
  obtain ⟨W2, hW2⟩ : ∃ W2, w1.alloc (.cells #[.slice none 0 0, .slice none 0 0, .slice none 0 0, .slice none 0 0, .slice none 0 0, .slice none 0 0, .slice none 0 0, .slice none 0 0] 53) = W2 := ⟨_, rfl⟩
  have hs2 : W2.heap.size = w1.heap.size + 1 := by rw [← hW2]; simp
  rw [hW2] at HX HI2 ⊢
  clear hW2
  refine wpIn_rangeFunc_ownF rfl (by omega) (gf := 88) (lb := #[.pointer (some ⟨w1.heap.size, 0, none⟩)]) rfl trivial (enters_of Tryz.func88 (by kernel_rfl) rfl)
    (encs := encE) (Kp := fun _ _ => True) (S := fun ys => ∃ x, ys = [x]) (Sp := fun _ => True) (N := 1) (w0 := W2)
    (cfg_in 7 (by omega) w1.heap.size W2 HX.out) (fun _ _ => trivial) (fun _ _ _ _ _ _ _ _ => trivial) (Below.refl _ _) (fun _ => rfl)
    (fun pre W => pre = [] ∧ AI w W (.slice none 0 0) ∨ pre ≠ [] ∧ ∃ p n c, AI w W (.slice p n c)) (fun _ _ _ => False)
    (fun s W W' row hs' hg hr => by
      rcases hs' with ⟨h1, h2⟩ | ⟨h1, p, n, c, h2⟩
      · exact .inl ⟨h1, h2.kept (B := W2.heap.size) (by omega) hg (fun r e => (hr r e).1)⟩
      · exact .inr ⟨h1, p, n, c, h2.kept (B := W2.heap.size) (by omega) hg (fun r e => (hr r e).1)⟩)
    (fun c s W W' row hs' hg hr => hs') (.inl ⟨rfl, HI2.out⟩)
    (fun x => { tmps := #[.agg #[.slice none 0 0, .slice none 0 0, .slice none 0 0, .slice none 0 0, .slice none 0 0, .slice none 0 0, .slice none 0 0, .slice none 0 0], .pointer (some ⟨w.heap.size, 0, none⟩), .pointer (some ⟨w.heap.size + 1, 0, none⟩), .int .i64 0, undef, .slice x.1.1 0 x.1.2, .agg #[.slice none 0 0, .slice none 0 0, .slice none 0 0, .slice none 0 0, .slice none 0 0, .slice none 0 0, .slice none 0 0, .slice none 0 0], .bool true, .bool false, .agg #[.slice none 0 0, .slice none 0 0, .slice none 0 0, .slice none 0 0, .slice none 0 0, .slice none 0 0, .slice none 0 0, .slice none 0 0], .func (.func 88) #[] #[.pointer (some ⟨w1.heap.size, 0, none⟩)], .int .i64 0, .slice x.1.1 0 x.1.2, undef, undef, undef, undef, undef], defers := [] }) ?assign ?body ?done ?stop
  case assign =>
    intro l x W K hK
    simp only [encE]
    gi_wp2
    exact hK
  case body =>
    rintro l pre ⟨⟨p, c'⟩, _⟩ W hI hlen
    obtain rfl : pre = [] := List.length_eq_zero_iff.1 (by omega)
    rcases hI with ⟨_, hI⟩ | ⟨h, _⟩
    case inr => exact absurd rfl h
    have HI := Lib.hid hI
    have hsz := hI.l.lt
    have n0 := hI.l.cell (i := 0) rfl
    have n1 := hI.l.frozen
    clear hI
    gi_wp2_with (first
      | (gi_at_builtin
         refine wpListIn_append_own _ rfl _ _ 277 rfl W.heap.size 23 i0 (.slice none 0 0) 1 24 Tryz.underlying277 hi0 hz0 hz1 hz2 rfl (by decide) (.slice none 0 0) 0 [] rfl (World.ownsRow_nil _ _ _ _) ⟨W.heap.size, 0, none⟩ 1 1 [.slice p 0 c'] rfl rfl (cell_one_new _ _ _) (by simp [Value.oneCell']) (by simp [maxLen]) (by omega) (by simp) ?_
         intro v' w3 hown' hgrow _
         have hI3 : AI w w3 (.slice none 0 0) := (HI.out.under ((Below.refl _ W).alloc (Nat.le_refl _) (.cells #[.slice p 0 c'] 23))).under ((Below.refl _ _).grown hgrow (Nat.le_refl _) (by simp [Value.ownBlock]))
         have hko : KeepsOthers W w3 := (KeepsOthers.alloc W _).trans (KeepsOthers.of_grownBy hgrow (by simp [Value.ownBlock]))
         obtain ⟨g', cap', rfl⟩ := ownsRow_succ hown'
         have HI3 := Lib.hid hI3
         have HKO := Lib.hid hko
         have n0 := hI3.l.cell (i := 0) rfl
         have n1 := hI3.l.frozen
         clear hI3 hko hown' hgrow))
    exact ⟨HKO.out.trans (KeepsOthers.setCell _ _ _), trivial, .inr ⟨by simp, _, _, _, HI3.out.l.set (i := 0) _, HI3.out.b.setCell (by simp) _⟩⟩
  case done =>
    rintro D ys W hD ⟨x, rfl⟩ hI hK
    rcases hI with ⟨h, _⟩ | ⟨_, p, n, c, hI⟩
    · cases h
    have HIf : Hid (AI w (W.putObj D (.deferred none)) (.slice p n c)) := hI.kept (B := W2.heap.size) (by omega) (grownBy_putObj' W D (.deferred none)) (fun r e => by cases e; exact hD)
    have HK := Lib.hid hK
    have n0 := hI.l.cell (i := 0) rfl
    have n1 := hI.l.frozen
    have HI := Lib.hid hI
    clear hI hK
    gi_wp2
    have HF : Hid (AI w ((W.setCell ⟨w.heap.size + 1, 0, none⟩ (.slice p n c)).putObj D (.deferred none)) (.slice p n c)) := (show AI w (W.setCell ⟨w.heap.size + 1, 0, none⟩ (.slice p n c)) (.slice p n c) from ⟨HI.out.l.set (i := 0) _, HI.out.b.setCell (by simp) _⟩).kept (B := W2.heap.size) (by omega) (grownBy_putObj' _ D (.deferred none)) (fun r e => by cases e; exact hD)
    have HKD : Hid ((W.setCell ⟨w.heap.size + 1, 0, none⟩ (.slice p n c)).heap[D]? = some (.deferred (some []))) := (Below.heap_setCell _ _ _ _ (by simp; omega)).trans HK.out
    refine ⟨by simp, .inl ⟨_, _, rfl, run_takeDeferred HKD.out, ?_⟩⟩
    generalize World.putObj _ D (.deferred none) = Wf at *
    have n2 := HF.out.l.cell (i := 0) rfl
    have HFB := Lib.hid HF.out.b
    refine ⟨_, ?_, ⟨p, n, c, rfl⟩, HFB.out⟩
    simp [results, Tryz.results195, go_sem, n2]
  case stop =>
    rintro D c pre W _ _ h
    exact h.elim
end Go.Proofs.YteggbpaljmopoaaGreat
/- levels.of, Levels, Loop, Check where there is nothing. PRINTED BY wip/gen_levels.py -/
namespace Go.Proofs.YteggbpaljmopoaaGreat
open Go.RowKit BF
def SlNil (w : World) (e : Ending) (w' : World) : Prop := (∃ g o c, e = .returned (.slice (some ⟨g, o, none⟩) 0 c)) ∧ Below w.heap.size w w'
set_option maxRecDepth 100000 in
set_option maxHeartbeats 2000000 in
theorem lof_nil (w : World) : Calls Tryz.prog 110 #[.agg #[.slice none 0 0, .slice none 0 0, .slice none 0 0, .slice none 0 0, .slice none 0 0, .slice none 0 0, .slice none 0 0, .slice none 0 0]] w (SlNil w) := by
  have hmk : ∀ w : World, (Instr.makeSlice 159 (.int .i64 0) (.int .i64 0)).run Tryz.prog w = .ok (.slice (some ⟨w.heap.size, 0, none⟩) 0 0) (w.alloc (.cells #[] 222)) := fun _ => by kernel_rfl
  have HA : Hid (Blk (w.alloc (.cells #[.slice none 0 0, .slice none 0 0, .slice none 0 0, .slice none 0 0, .slice none 0 0, .slice none 0 0, .slice none 0 0, .slice none 0 0] 53)) w.heap.size 53 #[.slice none 0 0, .slice none 0 0, .slice none 0 0, .slice none 0 0, .slice none 0 0, .slice none 0 0, .slice none 0 0, .slice none 0 0]) := Blk.new w _ _
  have HW : Hid (Below w.heap.size w (w.alloc (.cells #[.slice none 0 0, .slice none 0 0, .slice none 0 0, .slice none 0 0, .slice none 0 0, .slice none 0 0, .slice none 0 0, .slice none 0 0] 53))) := (Below.refl _ w).alloc (Nat.le_refl _) _
  have c0 := HA.out.cell (i := 0) rfl
  have c1 := HA.out.cell (i := 1) rfl
  have c2 := HA.out.cell (i := 2) rfl
  have c3 := HA.out.cell (i := 3) rfl
  have c4 := HA.out.cell (i := 4) rfl
  have c5 := HA.out.cell (i := 5) rfl
  have c6 := HA.out.cell (i := 6) rfl
  have c7 := HA.out.cell (i := 7) rfl
  go_enter Tryz.func110, Tryz.ntmps110
  go_wp2_with (fail)
  refine wp_loop_rounds 1 ?_
  rw [rounds_succ]
  go_wp2_with (fail)
  refine wp_loop_rounds 1 ?_
  rw [rounds_succ]
  go_wp2_with (fail)
  go_ret
  exact ⟨⟨_, _, _, rfl⟩, by repeat (first | exact Below.refl _ _ | refine Below.setCell ?_ (by simp <;> omega) _ | refine Below.alloc ?_ (by simp <;> omega) _)⟩
def LvNil (w : World) (e : Ending) (w' : World) : Prop := (∃ g o c, e = .returned (.tuple #[.slice (some ⟨g, o, none⟩) 0 c, .int .i64 0])) ∧ Below w.heap.size w w'
set_option maxRecDepth 100000 in
set_option maxHeartbeats 2000000 in
theorem levels_nil (w : World) : Calls Tryz.prog 80 #[.agg #[.slice none 0 0, .slice none 0 0, .slice none 0 0, .slice none 0 0, .slice none 0 0, .slice none 0 0, .slice none 0 0, .slice none 0 0]] w (LvNil w) := by
  have hmk : ∀ w : World, (Instr.makeSlice 23 (.int .i64 0) (.int .i64 0)).run Tryz.prog w = .ok (.slice (some ⟨w.heap.size, 0, none⟩) 0 0) (w.alloc (.cells #[] 3)) := fun _ => by kernel_rfl
  have HA : Hid (Blk (w.alloc (.cells #[.slice none 0 0, .slice none 0 0, .slice none 0 0, .slice none 0 0, .slice none 0 0, .slice none 0 0, .slice none 0 0, .slice none 0 0] 53)) w.heap.size 53 #[.slice none 0 0, .slice none 0 0, .slice none 0 0, .slice none 0 0, .slice none 0 0, .slice none 0 0, .slice none 0 0, .slice none 0 0]) := Blk.new w _ _
  have HW : Hid (Below w.heap.size w (w.alloc (.cells #[.slice none 0 0, .slice none 0 0, .slice none 0 0, .slice none 0 0, .slice none 0 0, .slice none 0 0, .slice none 0 0, .slice none 0 0] 53))) := (Below.refl _ w).alloc (Nat.le_refl _) _
  have c0 := HA.out.cell (i := 0) rfl
  have c1 := HA.out.cell (i := 1) rfl
  have c2 := HA.out.cell (i := 2) rfl
  have c3 := HA.out.cell (i := 3) rfl
  have c4 := HA.out.cell (i := 4) rfl
  have c5 := HA.out.cell (i := 5) rfl
  have c6 := HA.out.cell (i := 6) rfl
  have c7 := HA.out.cell (i := 7) rfl
  go_enter Tryz.func80, Tryz.ntmps80
  go_wp2_with (fail)
  refine (tcheck_nil _).mono ?_
  rintro e w1 ⟨rfl, hb⟩
  have HA1 := Lib.hid (HA.out.under hb)
  have HW1 := Lib.hid (HW.out.trans (hb.mono HW.out.size))
  clear hb c0 c1 c2 c3 c4 c5 c6 c7
  have c0 := HA1.out.cell (i := 0) rfl
  have c1 := HA1.out.cell (i := 1) rfl
  have c2 := HA1.out.cell (i := 2) rfl
  have c3 := HA1.out.cell (i := 3) rfl
  have c4 := HA1.out.cell (i := 4) rfl
  have c5 := HA1.out.cell (i := 5) rfl
  have c6 := HA1.out.cell (i := 6) rfl
  have c7 := HA1.out.cell (i := 7) rfl
  go_wp2_with (fail)
  refine (lof_nil _).mono ?_
  rintro e w2 ⟨⟨g, o, c, rfl⟩, hb⟩
  have HW2 := Lib.hid (HW1.out.trans (hb.mono HW1.out.size))
  have hs2 := HW2.out.size
  clear hb c0 c1 c2 c3 c4 c5 c6 c7
  go_wp2_with (fail)
  refine wp_loop_rounds 2 ?_
  rw [rounds_succ]
  go_wp2_with (fail)
  refine wp_loop_rounds 1 ?_
  rw [rounds_succ]
  go_wp2_with (fail)
  rw [rounds_succ]
  go_wp2_with (fail)
  refine (contains_ints_nil _ _ _ _).mono ?_
  rintro e w3 ⟨rfl, rfl⟩
  go_wp2_with (fail)
  go_ret2
  exact ⟨⟨_, _, _, rfl⟩, by repeat (first | exact HW2.out | exact HW2.out.alloc hs2 _ | refine Below.setCell ?_ (by simp <;> omega) _ | refine Below.alloc ?_ (by simp <;> omega) _)⟩
theorem results_tmp4 {fn : Func} {t u v x : Tmp} (h : fn.results = #[.tmp t, .tmp u, .tmp v, .tmp x]) (tmps : Array Value) (P : Program) (w : World) :
    (results fn tmps).run P w = .ok (.tuple #[tmps.getD t undef, tmps.getD u undef, tmps.getD v undef, tmps.getD x undef]) w := by
  simp [results, h]
theorem results_tmp5 {fn : Func} {t u v x y : Tmp} (h : fn.results = #[.tmp t, .tmp u, .tmp v, .tmp x, .tmp y]) (tmps : Array Value) (P : Program) (w : World) :
    (results fn tmps).run P w = .ok (.tuple #[tmps.getD t undef, tmps.getD u undef, tmps.getD v undef, tmps.getD x undef, tmps.getD y undef]) w := by
  simp [results, h]
theorem mapI_ins {P : Program} (w : World) (T K E : TypeId) (r clock : Nat) (es : Array MapEntry) (n : Int) (v : Value) (hT : P.underlying T = some (.map K E)) (hK : P.underlying K = some (.int .i64))
    (hb : w.heap[r]? = some (.map es clock)) (hf : Instr.findNow (.int .i64) (.int .i64 n) es.toList 0 = some none) :
    ∃ W', (Instr.mapUpdate T (.map (some r)) (.int .i64 n) v).run P w = .ok () W' ∧ Hid (W'.heap[r]? = some (.map (es.push { key := .int .i64 n, val := v, born := clock }) (clock + 1)) ∧ w.grownBy W' (some r)) := by
  have hc : (Instr.checkKey false 10000 K (.int .i64 n)).run P w = .ok () w := MapKept.run_checkKey (k := .int .i64 n) hK (by simp [MapKept.IsKey]) false 9999
  refine ⟨{ w with heap := w.heap.setIfInBounds r (.map (es.push { key := .int .i64 n, val := v, born := clock }) (clock + 1)) }, ?_, ?_, ?_⟩
  · simp [Instr.mapUpdate, run_underlying hT, MapKept.run_getObj_map hb, hc, MapKept.run_findKey hK hf, MapKept.run_setObj_map _ hb, Result.andThen]
  · have := (Array.getElem?_eq_some_iff.1 hb).1
    simp [Array.getElem?_setIfInBounds, this]
  · exact ⟨rfl, rfl, rfl, by simp, fun k hk hne => by simp [Array.getElem?_setIfInBounds]; intro h; exact absurd (by rw [h]) hne⟩
theorem mapI_del {P : Program} (w : World) (T K E ty : TypeId) (r clock : Nat) (es : Array MapEntry) (n : Int) (hT : P.underlying T = some (.map K E)) (hK : P.underlying K = some (.int .i64))
    (hb : w.heap[r]? = some (.map es clock)) (hf : Instr.findNow (.int .i64) (.int .i64 n) es.toList 0 = some none) :
    ∃ W', (Builtin.delete_ #[T, K] ty #[.map (some r), .int .i64 n]).run P w = .ok (.tuple #[]) W' ∧ Hid (W'.heap[r]? = some (.map es clock) ∧ w.grownBy W' (some r)) := by
  have hc : (Instr.checkKey false 10000 K (.int .i64 n)).run P w = .ok () w := MapKept.run_checkKey (k := .int .i64 n) hK (by simp [MapKept.IsKey]) false 9999
  have hc' : (Instr.checkKey es.isEmpty 10000 K (.int .i64 n)).run P w = .ok () w := MapKept.run_checkKey (k := .int .i64 n) hK (by simp [MapKept.IsKey]) _ 9999
  have hc2 : (Instr.checkKey true 10000 K (.int .i64 n)).run P w = .ok () w := MapKept.run_checkKey (k := .int .i64 n) hK (by simp [MapKept.IsKey]) true 9999
  refine ⟨{ w with heap := w.heap.setIfInBounds r (.map es clock) }, ?_, ?_, ?_⟩
  · simp [Builtin.delete_, run_underlying hT, MapKept.run_getObj_map hb, hc, hc', hc2, MapKept.run_findKey hK hf, MapKept.run_setObj_map _ hb, Result.andThen]
  · have := (Array.getElem?_eq_some_iff.1 hb).1
    simp [Array.getElem?_setIfInBounds, this]
  · exact ⟨rfl, rfl, rfl, by simp, fun k hk hne => by simp [Array.getElem?_setIfInBounds]; intro h; exact absurd (by rw [h]) hne⟩
set_option maxRecDepth 100000 in
set_option maxHeartbeats 2000000 in
theorem loop_nil (w : World) : Calls Tryz.prog 149 #[.agg #[.slice none 0 0, .slice none 0 0, .slice none 0 0, .slice none 0 0, .slice none 0 0, .slice none 0 0, .slice none 0 0, .slice none 0 0]] w fun e w' => e = .returned (.tuple #[.int .i64 0, .int .i64 0, .slice none 0 0, .bool false, .int .i64 0]) ∧ Below w.heap.size w w' := by
  have hmm := @run_makeMap Tryz.prog
  have HA : Hid (Blk (w.alloc (.cells #[.slice none 0 0, .slice none 0 0, .slice none 0 0, .slice none 0 0, .slice none 0 0, .slice none 0 0, .slice none 0 0, .slice none 0 0] 53)) w.heap.size 53 #[.slice none 0 0, .slice none 0 0, .slice none 0 0, .slice none 0 0, .slice none 0 0, .slice none 0 0, .slice none 0 0, .slice none 0 0]) := Blk.new w _ _
  have HW : Hid (Below w.heap.size w (w.alloc (.cells #[.slice none 0 0, .slice none 0 0, .slice none 0 0, .slice none 0 0, .slice none 0 0, .slice none 0 0, .slice none 0 0, .slice none 0 0] 53))) := (Below.refl _ w).alloc (Nat.le_refl _) _
  have c0 := HA.out.cell (i := 0) rfl
  have c1 := HA.out.cell (i := 1) rfl
  have c2 := HA.out.cell (i := 2) rfl
  have c3 := HA.out.cell (i := 3) rfl
  have c4 := HA.out.cell (i := 4) rfl
  have c5 := HA.out.cell (i := 5) rfl
  have c6 := HA.out.cell (i := 6) rfl
  have c7 := HA.out.cell (i := 7) rfl
  go_enter Tryz.func149, Tryz.ntmps149
  go_wp2_with (fail)
  go_step3
  go_wp2_with (fail)
  refine (tcheck_nil _).mono ?_
  rintro e w1 ⟨rfl, hb⟩
  have HA1 := Lib.hid (HA.out.under hb)
  have HW1 := Lib.hid (HW.out.trans (hb.mono HW.out.size))
  clear hb c0 c1 c2 c3 c4 c5 c6 c7
  have c0 := HA1.out.cell (i := 0) rfl
  have c1 := HA1.out.cell (i := 1) rfl
  have c2 := HA1.out.cell (i := 2) rfl
  have c3 := HA1.out.cell (i := 3) rfl
  have c4 := HA1.out.cell (i := 4) rfl
  have c5 := HA1.out.cell (i := 5) rfl
  have c6 := HA1.out.cell (i := 6) rfl
  have c7 := HA1.out.cell (i := 7) rfl
  go_wp2_with (fail)
  refine (all_nil _).mono ?_
  rintro e w2 ⟨⟨p, n, c, rfl⟩, hb⟩
  have HA2 := Lib.hid (HA1.out.under hb)
  have HW2 := Lib.hid (HW1.out.trans (hb.mono HW1.out.size))
  have hs2 := HW2.out.size
  clear hb c0 c1 c2 c3 c4 c5 c6 c7
  have HM0 := Lib.hid (MapKept.heap_alloc w2 (.map #[] 0)).1
  have HW3 := Lib.hid (HW2.out.alloc hs2 (.map #[] 0))
  have hs3 := HW3.out.size
  have hlt2 := HA2.out.lt
  have HA3 := Lib.hid (HA2.out.alloc (.map #[] 0))
  obtain ⟨W3, e3, H3⟩ := mapI_ins (P := Tryz.prog) (w2.alloc (.map #[] 0)) 222 3 4 w2.heap.size 0 #[] 0 (.bool true) Tryz.underlying222 Tryz.underlying3 HM0.out rfl
  have HW4 := Lib.hid (HW3.out.grown H3.out.2 HW3.out.size (fun k hk => by cases hk; omega))
  have hs4 := HW4.out.size
  obtain ⟨W4, e4, H4⟩ := mapI_del (P := Tryz.prog) W3 222 3 4 0 w2.heap.size 1 _ 1024 Tryz.underlying222 Tryz.underlying3 H3.out.1 rfl
  have HW5 := Lib.hid (HW4.out.grown H4.out.2 HW4.out.size (fun k hk => by cases hk; omega))
  have HA5 := Lib.hid ((HA3.out.kept H3.out.2 (by simp; omega)).kept H4.out.2 (by simp; omega))
  have d0 := HA5.out.cell (i := 0) rfl
  have d1 := HA5.out.cell (i := 1) rfl
  have d2 := HA5.out.cell (i := 2) rfl
  have d3 := HA5.out.cell (i := 3) rfl
  have d4 := HA5.out.cell (i := 4) rfl
  have d5 := HA5.out.cell (i := 5) rfl
  have d6 := HA5.out.cell (i := 6) rfl
  have d7 := HA5.out.cell (i := 7) rfl
  have c0 := (HA3.out.kept H3.out.2 (by simp; omega)).cell (i := 0) rfl
  have c1 := (HA3.out.kept H3.out.2 (by simp; omega)).cell (i := 1) rfl
  have c2 := (HA3.out.kept H3.out.2 (by simp; omega)).cell (i := 2) rfl
  have c3 := (HA3.out.kept H3.out.2 (by simp; omega)).cell (i := 3) rfl
  have c4 := (HA3.out.kept H3.out.2 (by simp; omega)).cell (i := 4) rfl
  have c5 := (HA3.out.kept H3.out.2 (by simp; omega)).cell (i := 5) rfl
  have c6 := (HA3.out.kept H3.out.2 (by simp; omega)).cell (i := 6) rfl
  clear hs3 hs4
  go_wp2_with (fail)
  refine wp_loop_rounds 1 ?_
  rw [rounds_succ]
  go_wp2_with (fail)
  go_step3
  go_wp2_with (fail)
  refine wp_loop_rounds 1 ?_
  rw [rounds_succ]
  go_wp2_with (fail)
  rw [Exit.noGoto_ret]
  refine bodyPost_ret (results_tmp5 rfl _ _ _) rfl ?_
  exact ⟨rfl, HW5.out⟩
set_option maxRecDepth 100000 in
set_option maxHeartbeats 2000000 in
theorem lcheck_nil (w : World) : Calls Tryz.prog 109 #[.agg #[.slice none 0 0, .slice none 0 0, .slice none 0 0, .slice none 0 0, .slice none 0 0, .slice none 0 0, .slice none 0 0, .slice none 0 0]] w fun e w' => e = .returned (.int .i64 0) ∧ Below w.heap.size w w' := by
  have HA : Hid (Blk (w.alloc (.cells #[.slice none 0 0, .slice none 0 0, .slice none 0 0, .slice none 0 0, .slice none 0 0, .slice none 0 0, .slice none 0 0, .slice none 0 0] 53)) w.heap.size 53 #[.slice none 0 0, .slice none 0 0, .slice none 0 0, .slice none 0 0, .slice none 0 0, .slice none 0 0, .slice none 0 0, .slice none 0 0]) := Blk.new w _ _
  have HW : Hid (Below w.heap.size w (w.alloc (.cells #[.slice none 0 0, .slice none 0 0, .slice none 0 0, .slice none 0 0, .slice none 0 0, .slice none 0 0, .slice none 0 0, .slice none 0 0] 53))) := (Below.refl _ w).alloc (Nat.le_refl _) _
  have c0 := HA.out.cell (i := 0) rfl
  have c1 := HA.out.cell (i := 1) rfl
  have c2 := HA.out.cell (i := 2) rfl
  have c3 := HA.out.cell (i := 3) rfl
  have c4 := HA.out.cell (i := 4) rfl
  have c5 := HA.out.cell (i := 5) rfl
  have c6 := HA.out.cell (i := 6) rfl
  have c7 := HA.out.cell (i := 7) rfl
  go_enter Tryz.func109, Tryz.ntmps109
  go_wp2_with (fail)
  refine (levels_nil _).mono ?_
  rintro e w1 ⟨⟨p, n, c, rfl⟩, hb⟩
  have HA1 := Lib.hid (HA.out.under hb)
  have HW1 := Lib.hid (HW.out.trans (hb.mono HW.out.size))
  clear hb c0 c1 c2 c3 c4 c5 c6 c7
  have c0 := HA1.out.cell (i := 0) rfl
  have c1 := HA1.out.cell (i := 1) rfl
  have c2 := HA1.out.cell (i := 2) rfl
  have c3 := HA1.out.cell (i := 3) rfl
  have c4 := HA1.out.cell (i := 4) rfl
  have c5 := HA1.out.cell (i := 5) rfl
  have c6 := HA1.out.cell (i := 6) rfl
  have c7 := HA1.out.cell (i := 7) rfl
  go_wp2_with (fail)
  refine (loop_nil _).mono ?_
  rintro e w2 ⟨rfl, hb⟩
  have HW2 := Lib.hid (HW1.out.trans (hb.mono HW1.out.size))
  have hs2 := HW2.out.size
  clear hb c0 c1 c2 c3 c4 c5 c6 c7
  go_wp2_with (fail)
  go_ret
  exact ⟨rfl, HW2.out⟩
end Go.Proofs.YteggbpaljmopoaaGreat
