/- The package ratios: the table of its operations. Conditions: those that each theorem states. -/
import Derived.Test.YteggbpaljmopoaaGreatRatsB
import Derived.Laws.EntriesVeiled
import Derived.WideMake
set_option linter.unusedVariables false
set_option linter.unusedSimpArgs false
/- Walks of ratios: operations, calculate. -/
namespace Go.Proofs.YteggbpaljmopoaaGreat
open Go.RowKit BF

theorem heap_new (W : World) (o : Obj) : (W.alloc o).heap[W.heap.size]? = some o := by
  show (W.heap.push _)[W.heap.size]? = _
  simp

/-- a new entry in a map with strings as keys -/
theorem map_ins {P : Program} (w : World) (T K E : TypeId) (r clock : Nat) (es : Array MapEntry) (s : ByteArray) (v : Value) (hT : P.underlying T = some (.map K E)) (hK : P.underlying K = some .string)
    (hb : w.heap[r]? = some (.map es clock)) (hf : Instr.findNow .string (.string s) es.toList 0 = some none) :
    ∃ W', (Instr.mapUpdate T (.map (some r)) (.string s) v).run P w = .ok () W' ∧ Hid (W'.heap[r]? = some (.map (es.push { key := .string s, val := v, born := clock }) (clock + 1)) ∧ w.grownBy W' (some r)) := by
  have hc : (Instr.checkKey false 10000 K (.string s)).run P w = .ok () w := MapKept.run_checkKey (k := .string s) hK (by simp [MapKept.IsKey]) false 9999
  refine ⟨{ w with heap := w.heap.setIfInBounds r (.map (es.push { key := .string s, val := v, born := clock }) (clock + 1)) }, ?_, ?_, ?_⟩
  · simp [Instr.mapUpdate, run_underlying hT, MapKept.run_getObj_map hb, hc, MapKept.run_findKey hK hf, MapKept.run_setObj_map _ hb, Result.andThen]
  · have := (Array.getElem?_eq_some_iff.1 hb).1
    simp [Array.getElem?_setIfInBounds, this]
  · exact ⟨rfl, rfl, rfl, by simp, fun k hk hne => by simp [Array.getElem?_setIfInBounds]; intro h; exact absurd (by rw [h]) hne⟩

/-- an entry of a map with strings as keys -/
theorem map_get {P : Program} (w : World) (T K E : TypeId) (r clock : Nat) (es : Array MapEntry) (s : ByteArray) (v : Value) (i : Nat) (hT : P.underlying T = some (.map K E)) (hK : P.underlying K = some .string)
    (hb : w.heap[r]? = some (.map es clock)) (hf : Instr.findNow .string (.string s) es.toList 0 = some (some (i, v))) :
    (Instr.lookup T (.map (some r)) (.string s) false).run P w = .ok v w := by
  have hc : (Instr.checkKey es.isEmpty 10000 K (.string s)).run P w = .ok () w := MapKept.run_checkKey (k := .string s) hK (by simp [MapKept.IsKey]) _ 9999
  simp [Instr.lookup, run_underlying hT, MapKept.run_getObj_map hb, hc, MapKept.run_findKey hK hf, Result.andThen]

/-- the entries of operations -/
def opsEntries (b1 b2 : Nat) : Array MapEntry := #[
  { key := .string ⟨#[43]⟩, val := .func (.func 158) #[] #[], born := 0 },
  { key := .string ⟨#[45]⟩, val := .func (.func 162) #[] #[.pointer (some ⟨b1, 0, none⟩)], born := 1 },
  { key := .string ⟨#[42]⟩, val := .func (.func 161) #[] #[], born := 2 },
  { key := .string ⟨#[47]⟩, val := .func (.func 163) #[] #[.pointer (some ⟨b2, 0, none⟩)], born := 3 }]

def OpsPost (w : World) (e : Ending) (w' : World) : Prop :=
  e = .returned (.map (some (w.heap.size + 1 + 1))) ∧ w'.heap[w.heap.size + 1 + 1]? = some (.map (opsEntries w.heap.size (w.heap.size + 1)) 4) ∧
  Blk w' w.heap.size 207 #[.func (.func 158) #[] #[]] ∧ Blk w' (w.heap.size + 1) 207 #[.func (.func 161) #[] #[]] ∧ Below w.heap.size w w'

set_option maxRecDepth 100000 in
set_option maxHeartbeats 2000000 in
theorem operations_any (w : World) : Calls Tryz.prog 141 #[] w (OpsPost w) := by
  have hmm := @run_makeMap Tryz.prog
  obtain ⟨W1, hW1⟩ : ∃ W1, ((w.alloc (.cells #[.func (.func 158) #[] #[]] 207)).alloc (.cells #[.func (.func 161) #[] #[]] 207)).alloc (.map #[] 0) = W1 := ⟨_, rfl⟩
  have HA1 : Hid (Blk W1 w.heap.size 207 #[.func (.func 158) #[] #[]]) := by rw [← hW1]; exact ((Blk.new w _ _).alloc _).alloc _
  have HB1 : Hid (Blk W1 (w.heap.size + 1) 207 #[.func (.func 161) #[] #[]]) := by rw [← hW1]; exact (Blk.new' _ _ _ _ (by simp)).alloc _
  have HM1 : Hid (W1.heap[w.heap.size + 1 + 1]? = some (.map #[] 0)) := by
    rw [← hW1]
    have := heap_new ((w.alloc (.cells #[.func (.func 158) #[] #[]] 207)).alloc (.cells #[.func (.func 161) #[] #[]] 207)) (.map #[] 0)
    rw [World.size_alloc, World.size_alloc] at this
    exact this
  have HW1 : Hid (Below w.heap.size w W1) := by rw [← hW1]; exact (((Below.refl _ w).alloc (Nat.le_refl _) _).alloc (by simp) _).alloc (by simp; omega) _
  obtain ⟨W2, i2, H2⟩ := map_ins (P := Tryz.prog) W1 208 9 207 _ _ _ ⟨#[43]⟩ (.func (.func 158) #[] #[]) Tryz.underlying208 Tryz.underlying9 HM1.out rfl
  obtain ⟨W3, i3, H3⟩ := map_ins (P := Tryz.prog) W2 208 9 207 _ _ _ ⟨#[45]⟩ (.func (.func 162) #[] #[.pointer (some ⟨w.heap.size, 0, none⟩)]) Tryz.underlying208 Tryz.underlying9 H2.out.1 (by rfl)
  obtain ⟨W4, i4, H4⟩ := map_ins (P := Tryz.prog) W3 208 9 207 _ _ _ ⟨#[42]⟩ (.func (.func 161) #[] #[]) Tryz.underlying208 Tryz.underlying9 H3.out.1 (by rfl)
  obtain ⟨W5, i5, H5⟩ := map_ins (P := Tryz.prog) W4 208 9 207 _ _ _ ⟨#[47]⟩ (.func (.func 163) #[] #[.pointer (some ⟨w.heap.size + 1, 0, none⟩)]) Tryz.underlying208 Tryz.underlying9 H4.out.1 (by rfl)
  have HG3 := Lib.hid (grownBy_trans H2.out.2 H3.out.2)
  have HG5 := Lib.hid (grownBy_trans HG3.out (grownBy_trans H4.out.2 H5.out.2))
  have c1 := HA1.out.cell (i := 0) rfl
  have c2 := (HB1.out.kept HG3.out (by simp)).cell (i := 0) rfl
  go_enter Tryz.func141, Tryz.ntmps141
  go_wp2
  go_ret
  exact ⟨rfl, H5.out.1, HA1.out.kept HG5.out (by simp; omega), HB1.out.kept HG5.out (by simp), HW1.out.grown HG5.out HW1.out.size (fun k hk => by cases hk; omega)⟩
end Go.Proofs.YteggbpaljmopoaaGreat
/- Walks of ratios: caught, calculate. -/
namespace Go.Proofs.YteggbpaljmopoaaGreat
open Go.RowKit BF

theorem assert_failure (W : World) (v : Value) : (Instr.typeAssert (.iface 151 v) 20 151 true).run Tryz.prog W = .ok (.tuple #[v, .bool true]) W := by kernel_rfl

set_option maxRecDepth 100000 in
set_option maxHeartbeats 400000 in
theorem caught_nil (p : Value) (w : World) : Calls Tryz.prog 139 #[.nilIface, p] w fun e w' => e = .returned (.tuple #[]) ∧ w' = w := by
  go_enter Tryz.func139, Tryz.ntmps139
  go_wp2
  go_end0
  exact ⟨rfl, rfl⟩

set_option maxRecDepth 100000 in
set_option maxHeartbeats 400000 in
theorem caught_fail (n x : Int) (g : Nat) (T : TypeId) (w : World) (hg : Blk w g T #[.int .i64 x]) :
    Calls Tryz.prog 139 #[.iface 151 (.agg #[.int .i64 n]), .pointer (some ⟨g, 0, none⟩)] w fun e w' => e = .returned (.tuple #[]) ∧ w' = (w.setCell ⟨g, 0, none⟩ (.int .i64 n)).alloc (.cells #[.int .i64 n] 151) := by
  have hgl := hg.lt
  have c0 := hg.cell (i := 0) rfl
  have f0 := hg.frozen
  have hne : g ≠ w.heap.size := by omega
  have ha := assert_failure
  go_enter Tryz.func139, Tryz.ntmps139
  go_wp2
  go_end0
  exact ⟨rfl, rfl⟩

/-- the deferred function of calculate, where nothing has panicked -/
theorem calc_idle (ge gr : Nat) (T : TypeId) (w : World) (he : Blk w ge T #[.int .i64 0]) :
    CallsD Tryz.prog 138 #[.pointer (some ⟨ge, 0, none⟩), .pointer (some ⟨gr, 0, none⟩)] .returning w fun e u' w' => e = .returned (.tuple #[]) ∧ u' = .returning ∧ w' = w := by
  have c0 := he.cell (i := 0) rfl
  refine callsD_of_wpS Tryz.func138 rfl fun c₀ cs hu => ?_
  apply wpS_seq
  apply wpS_region
  simp [wpOpsS, go_sem, recoverD, hu, Tryz.ntmps138, Exit.thenS]
  refine (caught_nil _ _).mono ?_
  rintro e w' ⟨rfl, rfl⟩
  dsimp only
  apply wpS_seq
  apply wpS_region
  simp [wpOpsS, go_sem, Exit.thenS, c0]
  refine wpS_cond (t := false) (by simp [Act.eval, Array.replicate]) ?_
  simp only [Bool.false_eq_true, if_false]
  refine wpS_of_wp (wp_skip ?_)
  cases c₀
  simp_all [bodyPostS, results, Tryz.results138]

/-- the deferred function of calculate, where there was a panic with an error -/
theorem calc_caught (n x : Int) (hn : (n != 0) = true) (ge gr : Nat) (T T2 : TypeId) (b : Bool) (r1 r2 : ByteArray) (older : List PanicEntry) (w : World) (he : Blk w ge T #[.int .i64 x]) (hr : Blk w gr T2 #[.bool b, .string r1, .string r2]) (hne : ge ≠ gr) :
    CallsD Tryz.prog 138 #[.pointer (some ⟨ge, 0, none⟩), .pointer (some ⟨gr, 0, none⟩)] (.panicking ({ v := .iface 151 (.agg #[.int .i64 n]), recovered := false } :: older)) w
      fun e u' w' => e = .returned (.tuple #[]) ∧ u' = .panicking ({ v := .iface 151 (.agg #[.int .i64 n]), recovered := true } :: older) ∧
        (∃ w1, w1 = (w.setCell ⟨ge, 0, none⟩ (.int .i64 n)).alloc (.cells #[.int .i64 n] 151) ∧ w' = ((w1.setCell ⟨gr, 0, none⟩ (.bool false)).setCell ⟨gr, 1, none⟩ (.string { data := #[] })).setCell ⟨gr, 2, none⟩ (.string { data := #[] })) := by
  have hb1 : Blk ((w.setCell ⟨ge, 0, none⟩ (.int .i64 n)).alloc (.cells #[.int .i64 n] 151)) ge T #[.int .i64 n] := (he.set (i := 0) (.int .i64 n)).alloc _
  have hb2 : Blk ((w.setCell ⟨ge, 0, none⟩ (.int .i64 n)).alloc (.cells #[.int .i64 n] 151)) gr T2 #[.bool b, .string r1, .string r2] := (hr.other _ (Ne.symm hne)).alloc _
  have c0 := hb1.cell (i := 0) rfl
  have d0 := hb2.cell (i := 0) rfl
  have d1 := hb2.cell (i := 1) rfl
  have d2 := hb2.cell (i := 2) rfl
  have fr := hb2.frozen
  refine callsD_of_wpS Tryz.func138 rfl fun c₀ cs hu => ?_
  apply wpS_seq
  apply wpS_region
  simp [wpOpsS, go_sem, recoverD, hu, Tryz.ntmps138, Exit.thenS]
  refine (caught_fail n x ge T w he).mono ?_
  rintro e w' ⟨rfl, rfl⟩
  dsimp only
  generalize (w.setCell ⟨ge, 0, none⟩ (.int .i64 n)).alloc (.cells #[.int .i64 n] 151) = w1 at *
  apply wpS_seq
  apply wpS_region
  simp [wpOpsS, go_sem, Exit.thenS, c0]
  refine wpS_cond (t := true) (by simp [Act.eval, Array.replicate, hn]) ?_
  simp only [if_true]
  apply wpS_region
  simp [wpOpsS, go_sem, Exit.thenS, d0, d1, d2, fr]
  cases c₀
  simp_all [bodyPostS, results, Tryz.results138]
end Go.Proofs.YteggbpaljmopoaaGreat
/- Walks of ratios: calculate. -/
namespace Go.Proofs.YteggbpaljmopoaaGreat
open Go.RowKit BF

/-- how calculate answers -/
def CalcPost (w : World) (v : Value) (k : Int) (e : Ending) (w' : World) : Prop := e = .returned (.tuple #[v, .int .i64 k]) ∧ Below w.heap.size w w'

theorem calc_boxes (w : World) (s t : Bool) (n d m c : ByteArray) : ∃ W, (((w.alloc (.cells #[.bool s, .string n, .string d] 25)).alloc (.cells #[.bool t, .string m, .string c] 25)).alloc (.cells #[.bool false, .string { data := #[] }, .string { data := #[] }] 25)).alloc (.cells #[.int .i64 0] 31) = W ∧
    Hid (Blk W w.heap.size 25 #[.bool s, .string n, .string d]) ∧ Hid (Blk W (w.heap.size + 1) 25 #[.bool t, .string m, .string c]) ∧ Hid (Blk W (w.heap.size + 1 + 1) 25 #[.bool false, .string { data := #[] }, .string { data := #[] }]) ∧ Hid (Blk W (w.heap.size + 1 + 1 + 1) 31 #[.int .i64 0]) ∧ Hid (Below w.heap.size w W) :=
  ⟨_, rfl, (((Blk.new w _ _).alloc _).alloc _).alloc _, ((Blk.new' _ _ _ _ (by simp)).alloc _).alloc _, (Blk.new' _ _ _ _ (by simp)).alloc _, Blk.new' _ _ _ _ (by simp), ((((Below.refl _ w).alloc (Nat.le_refl _) _).alloc (by simp) _).alloc (by simp; omega) _).alloc (by simp; omega) _⟩

theorem caught_end {B ge gr : Nat} {T T2 T3 : TypeId} {x : Int} {b : Bool} {r1 r2 : ByteArray} {w w1 w3 w2 : World} (n : Int) (he : Blk w1 ge T #[.int .i64 x]) (hr : Blk w1 gr T2 #[.bool b, .string r1, .string r2]) (hb : Below B w w1) (hne : ge ≠ gr) (h1 : B ≤ ge) (h2 : B ≤ gr)
    (h3 : w3 = (w1.setCell ⟨ge, 0, none⟩ (.int .i64 n)).alloc (.cells #[.int .i64 n] T3)) (h4 : w2 = ((w3.setCell ⟨gr, 0, none⟩ (.bool false)).setCell ⟨gr, 1, none⟩ (.string { data := #[] })).setCell ⟨gr, 2, none⟩ (.string { data := #[] })) :
    w2.cell? ⟨gr, 0, none⟩ = some (.bool false) ∧ w2.cell? ⟨gr, 1, none⟩ = some (.string { data := #[] }) ∧ w2.cell? ⟨gr, 2, none⟩ = some (.string { data := #[] }) ∧ w2.cell? ⟨ge, 0, none⟩ = some (.int .i64 n) ∧ Hid (Below B w w2) := by
  have e3 : Blk w3 ge T #[.int .i64 n] := by rw [h3]; exact (he.set (i := 0) (.int .i64 n)).alloc _
  have r3 : Blk w3 gr T2 #[.bool b, .string r1, .string r2] := by rw [h3]; exact (hr.other _ (Ne.symm hne)).alloc _
  have b3 : Below B w w3 := by rw [h3]; exact (hb.setCell h1 _).alloc (by have := he.lt; simp; omega) _
  have e4 : Blk w2 ge T #[.int .i64 n] := by rw [h4]; exact ((e3.other _ hne).other _ hne).other _ hne
  have r4 : Blk w2 gr T2 #[.bool false, .string { data := #[] }, .string { data := #[] }] := by rw [h4]; exact ((r3.set (i := 0) _).set (i := 1) _).set (i := 2) _
  have b4 : Below B w w2 := by rw [h4]; exact ((b3.setCell h2 _).setCell h2 _).setCell h2 _
  exact ⟨r4.cell rfl, r4.cell rfl, r4.cell rfl, e4.cell rfl, b4⟩

set_option maxRecDepth 100000 in
set_option maxHeartbeats 1000000 in
theorem calc_bad (op : ByteArray) (s t : Bool) (n d m c : ByteArray) (hn : n.size ≤ maxLen) (hd : d.size ≤ maxLen) (hm : m.size ≤ maxLen) (hc : c.size ≤ maxLen) (hok : (ratOk s n d && ratOk t m c) = false) (w : World) :
    Calls Tryz.prog 99 #[.string op, .agg #[.bool s, .string n, .string d], .agg #[.bool t, .string m, .string c]] w (CalcPost w zeroR 70) := by
  obtain ⟨W0, hW0, HA, HB, HR, HE, HW⟩ := calc_boxes w s t n d m c
  have hmf : ∀ (w : World) (p q : Value), (Instr.makeFunc (.func 138) #[] #[p, q]).run Tryz.prog w = .ok (.func (.func 138) #[] #[p, q]) w := fun _ _ _ => rfl
  have Hv := Lib.hid (fun (g cap : Nat) (w : World) (h : Blk w g 25 #[.bool s, .string n, .string d, .bool t, .string m, .string c]) => valid_any g cap s t n d m c hn hd hm hc w h)
  have HOK := Lib.hid hok
  clear hn hd hm hc hok
  obtain ⟨x0, x1, x2, x3, x4, x5⟩ := six HA.out HB.out
  go_enter_defers Tryz.func99, Tryz.ntmps99
  go_wp2_with (fail)
  refine (Hv.out _ _ _ (Blk.new _ _ _)).mono ?_
  rintro e w1 ⟨h, hb⟩
  rw [HOK.out] at h
  obtain ⟨h, -⟩ | ⟨-, rfl⟩ := h
  · cases h
  have HW1 := Lib.hid ((HW.out.alloc HW.out.size (.cells #[.bool s, .string n, .string d, .bool t, .string m, .string c] 25)).trans (hb.mono (by have := HW.out.size; simp; omega)))
  have HE1 := Lib.hid ((HE.out.alloc (.cells #[.bool s, .string n, .string d, .bool t, .string m, .string c] 25)).below hb (by have := HE.out.lt; simp; omega))
  have HR1 := Lib.hid ((HR.out.alloc (.cells #[.bool s, .string n, .string d, .bool t, .string m, .string c] 25)).below hb (by have := HR.out.lt; simp; omega))
  clear hb
  go_wp2
  refine leaves_cons (f := 138) (args := #[.pointer (some ⟨w.heap.size + 1 + 1 + 1, 0, none⟩), .pointer (some ⟨w.heap.size + 1 + 1, 0, none⟩)]) (by simp) (by simp [go_sem]) ?_
  refine (calc_caught 70 0 (by rfl) _ _ _ _ _ _ _ _ _ HE1.out HR1.out (by omega)).mono ?_
  rintro e u w2 ⟨rfl, rfl, w3, h3, rfl⟩
  obtain ⟨q0, q1, q2, q3, HW2⟩ := caught_end 70 HE1.out HR1.out HW1.out (by omega) (by omega) (by omega) h3 rfl
  generalize ((w3.setCell ⟨w.heap.size + 1 + 1, 0, none⟩ (.bool false)).setCell ⟨w.heap.size + 1 + 1, 1, none⟩ (.string { data := #[] })).setCell ⟨w.heap.size + 1 + 1, 2, none⟩ (.string { data := #[] }) = w2 at *
  simp [Leaves, settle, results, Tryz.results99, go_sem, q0, q1, q2, q3, CalcPost, zeroR, HW2.out]
end Go.Proofs.YteggbpaljmopoaaGreat
