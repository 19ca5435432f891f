/- The package ratios: what Add, Sub, Mul, Div, Floor, Ceil return. Conditions: those that each theorem states. -/
import Derived.Test.YteggbpaljmopoaaGreatRatsC
set_option linter.unusedVariables false
set_option linter.unusedSimpArgs false
/- Walks of ratios: calculate, operation by operation. PRINTED BY wip/gen_calc.py -/
namespace Go.Proofs.YteggbpaljmopoaaGreat
open Go.RowKit BF

def PanicAs (C : List PanicEntry) (D : List Deferred) (i j : Nat) (vi vj : Value) (R : World → Prop) (Q : Exit → Act → World → Prop) : Exit → Act → World → Prop
  | .panic c, a, w => c = C ∧ a.defers = D ∧ a.tmps[i]? = some vi ∧ a.tmps[j]? = some vj ∧ R w
  | e, a, w => Q e a w
theorem wp_region_panicAs {P : Program} {id : Nat} {ops : Array Oper} {b : Bool} {C : List PanicEntry} {D : List Deferred} {i j : Nat} {vi vj : Value} {R : World → Prop} {Q : Exit → Act → World → Prop} {a : Act} {w : World}
    (hp : ∀ a w, a.defers = D → a.tmps[i]? = some vi → a.tmps[j]? = some vj → R w → Q (.panic C) a w) (h : (Code.region id ops b).wp P (PanicAs C D i j vi vj R Q) a w) : (Code.region id ops b).wp P Q a w :=
  Code.wp_mono (fun e a w h => by
    cases e with
    | panic c => obtain ⟨rfl, h1, h2, h3, h4⟩ := h; exact hp a w h1 h2 h3 h4
    | _ => exact h) h

set_option maxRecDepth 100000 in
set_option maxHeartbeats 2000000 in
theorem calc1_ok (s t : Bool) (n d m c : ByteArray) (B0 : Bool) (N0 D0 : ByteArray) (hn : n.size ≤ maxLen) (hd : d.size ≤ maxLen) (hm : m.size ≤ maxLen) (hc : c.size ≤ maxLen) (hok : (ratOk s n d && ratOk t m c) = true)
    (TF : Hid (∀ w : World, Calls Tryz.prog 158 #[.agg #[.bool s, .string n, .string d], .agg #[.bool t, .string m, .string c]] w fun e w' => e = .returned (.agg #[.bool B0, .string N0, .string D0]) ∧ Below w.heap.size w w')) (w : World) :
    Calls Tryz.prog 99 #[.string ⟨#[43]⟩, .agg #[.bool s, .string n, .string d], .agg #[.bool t, .string m, .string c]] w (CalcPost w (.agg #[.bool B0, .string N0, .string D0]) 0) := by
  obtain ⟨W0, hW0, HA, HB, HR, HE, HW⟩ := calc_boxes w s t n d m c
  have hmf : ∀ (w : World) (p q : Value), (Instr.makeFunc (.func 138) #[] #[p, q]).run Tryz.prog w = .ok (.func (.func 138) #[] #[p, q]) w := fun _ _ _ => rfl
  have Hv := Lib.hid (fun (g cap : Nat) (w : World) (h : Blk w g 25 #[.bool s, .string n, .string d, .bool t, .string m, .string c]) => valid_any g cap s t n d m c hn hd hm hc w h)
  have HOK := Lib.hid hok
  clear hn hd hm hc hok
  obtain ⟨x0, x1, x2, x3, x4, x5⟩ := six HA.out HB.out
  go_enter_defers Tryz.func99, Tryz.ntmps99
  go_wp2_with (fail)
  refine (Hv.out _ _ _ (Blk.new _ _ _)).mono ?_
  rintro e w1 ⟨h, hb⟩
  rw [HOK.out] at h
  obtain ⟨-, rfl⟩ | ⟨h, -⟩ := h
  case inr => cases h
  have HW1 := Lib.hid ((HW.out.alloc HW.out.size (.cells #[.bool s, .string n, .string d, .bool t, .string m, .string c] 25)).trans (hb.mono (by have := HW.out.size; simp; omega)))
  have HE1 := Lib.hid ((HE.out.alloc (.cells #[.bool s, .string n, .string d, .bool t, .string m, .string c] 25)).below hb (by have := HE.out.lt; simp; omega))
  have HR1 := Lib.hid ((HR.out.alloc (.cells #[.bool s, .string n, .string d, .bool t, .string m, .string c] 25)).below hb (by have := HR.out.lt; simp; omega))
  have HA1 := Lib.hid ((HA.out.alloc (.cells #[.bool s, .string n, .string d, .bool t, .string m, .string c] 25)).below hb (by have := HA.out.lt; simp; omega))
  have HB1 := Lib.hid ((HB.out.alloc (.cells #[.bool s, .string n, .string d, .bool t, .string m, .string c] 25)).below hb (by have := HB.out.lt; simp; omega))
  clear hb x0 x1 x2 x3 x4 x5 hmf HA HB HR HE HW hW0
  go_wp2_with (fail)
  refine wp_region_noPanic ?_
  refine wp_region_held_drew (S := fun w' => w'.cell? ⟨w.heap.size, 0, none⟩ = some (.bool s) ∧ w'.cell? ⟨w.heap.size, 1, none⟩ = some (.string n) ∧ w'.cell? ⟨w.heap.size, 2, none⟩ = some (.string d) ∧ w'.cell? ⟨w.heap.size + 1, 0, none⟩ = some (.bool t) ∧ w'.cell? ⟨w.heap.size + 1, 1, none⟩ = some (.string m) ∧ w'.cell? ⟨w.heap.size + 1, 2, none⟩ = some (.string c)) (by kernel_rfl) (six HA1.out.drew HB1.out.drew) (fun hS0 => ?_)
  refine wpAnyH_take (i := 1) (v := ?_) rfl (by kernel_rfl) (by kernel_rfl) (by kernel_rfl) (fun _ _ _ h => by first | exact h | simpa [PanicAs, Act.put, Array.getElem?_setIfInBounds] using h) (Or.inl ⟨by rfl, ?_⟩) (by assumption) ?_
  rotate_left
  · intro w hSw; (try dsimp only at hSw); go_simp; try with_reducible rfl
  try simp only [Act.put, List.setIfInBounds_toArray, List.set_cons_zero, List.set_cons_succ]
  refine wpAnyH_take (i := 3) (v := ?_) rfl (by kernel_rfl) (by kernel_rfl) (by kernel_rfl) (fun _ _ _ h => by first | exact h | simpa [PanicAs, Act.put, Array.getElem?_setIfInBounds] using h) (Or.inl ⟨by rfl, ?_⟩) (by assumption) ?_
  rotate_left
  · intro w hSw; (try dsimp only at hSw); go_simp; try with_reducible rfl
  try simp only [Act.put, List.setIfInBounds_toArray, List.set_cons_zero, List.set_cons_succ]
  refine wpAnyH_take (i := 4) (v := ?_) rfl (by kernel_rfl) (by kernel_rfl) (by kernel_rfl) (fun _ _ _ h => by first | exact h | simpa [PanicAs, Act.put, Array.getElem?_setIfInBounds] using h) (Or.inl ⟨by rfl, ?_⟩) (by assumption) ?_
  rotate_left
  · intro w hSw; (try dsimp only at hSw); go_simp; try with_reducible rfl
  try simp only [Act.put, List.setIfInBounds_toArray, List.set_cons_zero, List.set_cons_succ]
  refine wpAnyH_ready (rs := [0]) (by kernel_rfl) (by simp) ?_
  refine AllReadyH.cons rfl (fun K hK => ?_) ?_
  · go_simp
    refine (operations_any _).mono ?_
    rintro e w2 ⟨rfl, HM, HO0, HO1, hb⟩
    replace HM : w2.heap[w1.heap.size + 1 + 1]? = some (.map (opsEntries w1.heap.size (w1.heap.size + 1)) 4) := HM
    replace HO0 : Blk w2 w1.heap.size 207 #[.func (.func 158) #[] #[]] := HO0
    replace HO1 : Blk w2 (w1.heap.size + 1) 207 #[.func (.func 161) #[] #[]] := HO1
    have HW2 := Lib.hid (HW1.out.drew.trans (hb.mono HW1.out.drew.size))
    have HA2 := Lib.hid (HA1.out.drew.under hb)
    have HB2 := Lib.hid (HB1.out.drew.under hb)
    have HR2 := Lib.hid (HR1.out.drew.under hb)
    have HE2 := Lib.hid (HE1.out.drew.under hb)
    clear hb
    have hg := map_get (P := Tryz.prog) w2 208 9 207 _ _ _ ⟨#[43]⟩ _ _ Tryz.underlying208 Tryz.underlying9 HM (by rfl)
    clear HM
    refine hK _ _ (six HA2.out HB2.out) (fun hS2 => ?_)
    clear hK K
    refine wpAnyH_ready (rs := [2]) (by kernel_rfl) (by simp) ?_
    refine AllReadyH.cons rfl (fun K hK => ?_) ?_
    · go_simp
      refine hK _ _ (six HA2.out HB2.out) (fun hS3 => ?_)
      clear hK K
      refine wpAnyH_ready (rs := [5]) (by kernel_rfl) (by simp) ?_
      refine AllReadyH.cons rfl (fun K hK => ?_) ?_
      · go_simp
        refine (TF.out _).mono ?_
        rintro e w3 ⟨rfl, hb⟩
        have HA3 := Lib.hid (HA2.out.under hb)
        have HB3 := Lib.hid (HB2.out.under hb)
        have HR3 := Lib.hid (HR2.out.under hb)
        have HE3 := Lib.hid (HE2.out.under hb)
        have HW3 := Lib.hid (HW2.out.trans (hb.mono HW2.out.size))
        clear hb
        refine hK _ _ (six HA3.out HB3.out) (fun hS4 => ?_)
        clear hK K
        have r0 := HR3.out.cell (i := 0) rfl
        have r1 := HR3.out.cell (i := 1) rfl
        have r2 := HR3.out.cell (i := 2) rfl
        have fr := HR3.out.frozen
        refine wpAnyH_ready (rs := [6]) (by kernel_rfl) (by simp) ?_
        refine AllReadyH.cons rfl (fun K hK => ?_) ?_
        · go_simp
          refine hK _ _ (six (((HA3.out.other _ (by omega)).other _ (by omega)).other _ (by omega)) (((HB3.out.other _ (by omega)).other _ (by omega)).other _ (by omega))) (fun hS5 => ?_)
          clear hK K
          have HR4 := Lib.hid (((HR3.out.set (i := 0) (.bool B0)).set (i := 1) (.string N0)).set (i := 2) (.string D0))
          have HE4 := Lib.hid (((HE3.out.other (i := 0) (c := w.heap.size + 1 + 1) (.bool B0) (by omega)).other (i := 1) (c := w.heap.size + 1 + 1) (.string N0) (by omega)).other (i := 2) (c := w.heap.size + 1 + 1) (.string D0) (by omega))
          have HA4 := Lib.hid (((HA3.out.other (i := 0) (c := w.heap.size + 1 + 1) (.bool B0) (by omega)).other (i := 1) (c := w.heap.size + 1 + 1) (.string N0) (by omega)).other (i := 2) (c := w.heap.size + 1 + 1) (.string D0) (by omega))
          have HB4 := Lib.hid (((HB3.out.other (i := 0) (c := w.heap.size + 1 + 1) (.bool B0) (by omega)).other (i := 1) (c := w.heap.size + 1 + 1) (.string N0) (by omega)).other (i := 2) (c := w.heap.size + 1 + 1) (.string D0) (by omega))
          have HW4 := Lib.hid (((HW3.out.setCell (p := ⟨w.heap.size + 1 + 1, 0, none⟩) (by simp; omega) (.bool B0)).setCell (p := ⟨w.heap.size + 1 + 1, 1, none⟩) (by simp; omega) (.string N0)).setCell (p := ⟨w.heap.size + 1 + 1, 2, none⟩) (by simp; omega) (.string D0))
          generalize ((w3.setCell ⟨w.heap.size + 1 + 1, 0, none⟩ (.bool B0)).setCell ⟨w.heap.size + 1 + 1, 1, none⟩ (.string N0)).setCell ⟨w.heap.size + 1 + 1, 2, none⟩ (.string D0) = w4 at *
          have e0 := HE4.out.cell (i := 0) rfl
          have fe := HE4.out.frozen
          refine wpAnyH_ready (rs := [7]) (by kernel_rfl) (by simp) ?_
          refine AllReadyH.cons rfl (fun K hK => ?_) ?_
          · go_simp
            refine hK _ _ (six (HA4.out.other _ (by omega)) (HB4.out.other _ (by omega))) (fun hS6 => ?_)
            clear hK K
            refine wpAnyH_done (by kernel_rfl) ?_ _
            apply NoPanic.normal
            have HE5 := Lib.hid (HE4.out.set (i := 0) (.int .i64 0))
            have HR5 := Lib.hid (HR4.out.other (i := 0) (c := w.heap.size + 1 + 1 + 1) (.int .i64 0) (by omega))
            have HW5 := Lib.hid (HW4.out.setCell (p := ⟨w.heap.size + 1 + 1 + 1, 0, none⟩) (by simp; omega) (.int .i64 0))
            clear r0 r1 r2 fr e0 fe HA2 HA3 HA4 HB2 HB3 HB4 HR2 HR3 HR4 HE2 HE3 HE4
            generalize w4.setCell ⟨w.heap.size + 1 + 1 + 1, 0, none⟩ (.int .i64 0) = w5 at *
            have r0 := HR5.out.cell (i := 0) rfl
            have r1 := HR5.out.cell (i := 1) rfl
            have r2 := HR5.out.cell (i := 2) rfl
            have e0 := HE5.out.cell (i := 0) rfl
            go_wp2
            refine leaves_cons (f := 138) (args := #[.pointer (some ⟨w.heap.size + 1 + 1 + 1, 0, none⟩), .pointer (some ⟨w.heap.size + 1 + 1, 0, none⟩)]) (by simp) (by simp [go_sem]) ?_
            refine (calc_idle _ _ _ _ HE5.out).mono ?_
            rintro e u w6 ⟨rfl, rfl, rfl⟩
            simp [Leaves, settle, results, Tryz.results99, go_sem, r0, r1, r2, e0, CalcPost, HW5.out]
          exact AllReadyH.nil
        exact AllReadyH.nil
      exact AllReadyH.nil
    exact AllReadyH.nil
  exact AllReadyH.nil

set_option maxRecDepth 100000 in
set_option maxHeartbeats 2000000 in
theorem calc1_bad (s t : Bool) (n d m c : ByteArray) (k : Int) (hk : (k != 0) = true) (hn : n.size ≤ maxLen) (hd : d.size ≤ maxLen) (hm : m.size ≤ maxLen) (hc : c.size ≤ maxLen) (hok : (ratOk s n d && ratOk t m c) = true)
    (TF : Hid (∀ w : World, Calls Tryz.prog 158 #[.agg #[.bool s, .string n, .string d], .agg #[.bool t, .string m, .string c]] w fun e w' => e = .panicked (failv k) ∧ Below w.heap.size w w')) (w : World) :
    Calls Tryz.prog 99 #[.string ⟨#[43]⟩, .agg #[.bool s, .string n, .string d], .agg #[.bool t, .string m, .string c]] w (CalcPost w zeroR k) := by
  obtain ⟨W0, hW0, HA, HB, HR, HE, HW⟩ := calc_boxes w s t n d m c
  have hmf : ∀ (w : World) (p q : Value), (Instr.makeFunc (.func 138) #[] #[p, q]).run Tryz.prog w = .ok (.func (.func 138) #[] #[p, q]) w := fun _ _ _ => rfl
  have Hv := Lib.hid (fun (g cap : Nat) (w : World) (h : Blk w g 25 #[.bool s, .string n, .string d, .bool t, .string m, .string c]) => valid_any g cap s t n d m c hn hd hm hc w h)
  have HOK := Lib.hid hok
  clear hn hd hm hc hok
  obtain ⟨x0, x1, x2, x3, x4, x5⟩ := six HA.out HB.out
  go_enter_defers Tryz.func99, Tryz.ntmps99
  go_wp2_with (fail)
  refine (Hv.out _ _ _ (Blk.new _ _ _)).mono ?_
  rintro e w1 ⟨h, hb⟩
  rw [HOK.out] at h
  obtain ⟨-, rfl⟩ | ⟨h, -⟩ := h
  case inr => cases h
  have HW1 := Lib.hid ((HW.out.alloc HW.out.size (.cells #[.bool s, .string n, .string d, .bool t, .string m, .string c] 25)).trans (hb.mono (by have := HW.out.size; simp; omega)))
  have HE1 := Lib.hid ((HE.out.alloc (.cells #[.bool s, .string n, .string d, .bool t, .string m, .string c] 25)).below hb (by have := HE.out.lt; simp; omega))
  have HR1 := Lib.hid ((HR.out.alloc (.cells #[.bool s, .string n, .string d, .bool t, .string m, .string c] 25)).below hb (by have := HR.out.lt; simp; omega))
  have HA1 := Lib.hid ((HA.out.alloc (.cells #[.bool s, .string n, .string d, .bool t, .string m, .string c] 25)).below hb (by have := HA.out.lt; simp; omega))
  have HB1 := Lib.hid ((HB.out.alloc (.cells #[.bool s, .string n, .string d, .bool t, .string m, .string c] 25)).below hb (by have := HB.out.lt; simp; omega))
  clear hb x0 x1 x2 x3 x4 x5 hmf HA HB HR HE HW hW0
  go_wp2_with (fail)
  refine wp_region_panicAs (C := failv k) (D := [{ target := .fn (.func 138) #[.pointer (some ⟨w.heap.size + 1 + 1 + 1, 0, none⟩), .pointer (some ⟨w.heap.size + 1 + 1, 0, none⟩)], args := #[] }]) (i := 6) (j := 7) (vi := .pointer (some ⟨w.heap.size + 1 + 1, 0, none⟩)) (vj := .pointer (some ⟨w.heap.size + 1 + 1 + 1, 0, none⟩)) (R := fun w' => Blk w' (w.heap.size + 1 + 1) 25 #[.bool false, .string { data := #[] }, .string { data := #[] }] ∧ Blk w' (w.heap.size + 1 + 1 + 1) 31 #[.int .i64 0] ∧ Below w.heap.size w w') ?_ ?_
  · rintro ⟨tm, ds⟩ w4 h1 t6 t7 ⟨HR4, HE4, HW4⟩
    dsimp only at h1 t6 t7
    subst h1
    replace HR4 := Lib.hid HR4
    replace HE4 := Lib.hid HE4
    replace HW4 := Lib.hid HW4
    refine leaves_cons (f := 138) (args := #[.pointer (some ⟨w.heap.size + 1 + 1 + 1, 0, none⟩), .pointer (some ⟨w.heap.size + 1 + 1, 0, none⟩)]) (by simp) (by simp [go_sem]) ?_
    refine (calc_caught k 0 hk _ _ _ _ _ _ _ _ _ HE4.out HR4.out (by omega)).mono ?_
    rintro e u w2 ⟨rfl, rfl, w3, h3, rfl⟩
    obtain ⟨q0, q1, q2, q3, HW2⟩ := caught_end k HE4.out HR4.out HW4.out (by omega) (by omega) (by omega) h3 rfl
    generalize ((w3.setCell ⟨w.heap.size + 1 + 1, 0, none⟩ (.bool false)).setCell ⟨w.heap.size + 1 + 1, 1, none⟩ (.string { data := #[] })).setCell ⟨w.heap.size + 1 + 1, 2, none⟩ (.string { data := #[] }) = w2 at *
    simp [Leaves, settle, results, Tryz.results99, go_sem, t6, t7, q0, q1, q2, q3, CalcPost, zeroR, HW2.out]
  refine wp_region_held_drew (S := fun w' => w'.cell? ⟨w.heap.size, 0, none⟩ = some (.bool s) ∧ w'.cell? ⟨w.heap.size, 1, none⟩ = some (.string n) ∧ w'.cell? ⟨w.heap.size, 2, none⟩ = some (.string d) ∧ w'.cell? ⟨w.heap.size + 1, 0, none⟩ = some (.bool t) ∧ w'.cell? ⟨w.heap.size + 1, 1, none⟩ = some (.string m) ∧ w'.cell? ⟨w.heap.size + 1, 2, none⟩ = some (.string c)) (by kernel_rfl) (six HA1.out.drew HB1.out.drew) (fun hS0 => ?_)
  refine wpAnyH_take (i := 1) (v := ?_) rfl (by kernel_rfl) (by kernel_rfl) (by kernel_rfl) (fun _ _ _ h => by first | exact h | simpa [PanicAs, Act.put, Array.getElem?_setIfInBounds] using h) (Or.inl ⟨by rfl, ?_⟩) (by assumption) ?_
  rotate_left
  · intro w hSw; (try dsimp only at hSw); go_simp; try with_reducible rfl
  try simp only [Act.put, List.setIfInBounds_toArray, List.set_cons_zero, List.set_cons_succ]
  refine wpAnyH_take (i := 3) (v := ?_) rfl (by kernel_rfl) (by kernel_rfl) (by kernel_rfl) (fun _ _ _ h => by first | exact h | simpa [PanicAs, Act.put, Array.getElem?_setIfInBounds] using h) (Or.inl ⟨by rfl, ?_⟩) (by assumption) ?_
  rotate_left
  · intro w hSw; (try dsimp only at hSw); go_simp; try with_reducible rfl
  try simp only [Act.put, List.setIfInBounds_toArray, List.set_cons_zero, List.set_cons_succ]
  refine wpAnyH_take (i := 4) (v := ?_) rfl (by kernel_rfl) (by kernel_rfl) (by kernel_rfl) (fun _ _ _ h => by first | exact h | simpa [PanicAs, Act.put, Array.getElem?_setIfInBounds] using h) (Or.inl ⟨by rfl, ?_⟩) (by assumption) ?_
  rotate_left
  · intro w hSw; (try dsimp only at hSw); go_simp; try with_reducible rfl
  try simp only [Act.put, List.setIfInBounds_toArray, List.set_cons_zero, List.set_cons_succ]
  refine wpAnyH_ready (rs := [0]) (by kernel_rfl) (by simp) ?_
  refine AllReadyH.cons rfl (fun K hK => ?_) ?_
  · go_simp
    refine (operations_any _).mono ?_
    rintro e w2 ⟨rfl, HM, HO0, HO1, hb⟩
    replace HM : w2.heap[w1.heap.size + 1 + 1]? = some (.map (opsEntries w1.heap.size (w1.heap.size + 1)) 4) := HM
    replace HO0 : Blk w2 w1.heap.size 207 #[.func (.func 158) #[] #[]] := HO0
    replace HO1 : Blk w2 (w1.heap.size + 1) 207 #[.func (.func 161) #[] #[]] := HO1
    have HW2 := Lib.hid (HW1.out.drew.trans (hb.mono HW1.out.drew.size))
    have HA2 := Lib.hid (HA1.out.drew.under hb)
    have HB2 := Lib.hid (HB1.out.drew.under hb)
    have HR2 := Lib.hid (HR1.out.drew.under hb)
    have HE2 := Lib.hid (HE1.out.drew.under hb)
    clear hb
    have hg := map_get (P := Tryz.prog) w2 208 9 207 _ _ _ ⟨#[43]⟩ _ _ Tryz.underlying208 Tryz.underlying9 HM (by rfl)
    clear HM
    refine hK _ _ (six HA2.out HB2.out) (fun hS2 => ?_)
    clear hK K
    refine wpAnyH_ready (rs := [2]) (by kernel_rfl) (by simp) ?_
    refine AllReadyH.cons rfl (fun K hK => ?_) ?_
    · go_simp
      refine hK _ _ (six HA2.out HB2.out) (fun hS3 => ?_)
      clear hK K
      refine wpAnyH_ready (rs := [5]) (by kernel_rfl) (by simp) ?_
      refine AllReadyH.cons rfl (fun K hK => ?_) ?_
      · go_simp
        refine (TF.out _).mono ?_
        rintro e w3 ⟨rfl, hb⟩
        exact ⟨rfl, rfl, rfl, rfl, HR2.out.under hb, HE2.out.under hb, HW2.out.trans (hb.mono HW2.out.size)⟩
      exact AllReadyH.nil
    exact AllReadyH.nil
  exact AllReadyH.nil

set_option maxRecDepth 100000 in
set_option maxHeartbeats 2000000 in
theorem calc2_ok (s t : Bool) (n d m c : ByteArray) (B0 : Bool) (N0 D0 : ByteArray) (hn : n.size ≤ maxLen) (hd : d.size ≤ maxLen) (hm : m.size ≤ maxLen) (hc : c.size ≤ maxLen) (hok : (ratOk s n d && ratOk t m c) = true)
    (TF : Hid (∀ w : World, Calls Tryz.prog 161 #[.agg #[.bool s, .string n, .string d], .agg #[.bool t, .string m, .string c]] w fun e w' => e = .returned (.agg #[.bool B0, .string N0, .string D0]) ∧ Below w.heap.size w w')) (w : World) :
    Calls Tryz.prog 99 #[.string ⟨#[42]⟩, .agg #[.bool s, .string n, .string d], .agg #[.bool t, .string m, .string c]] w (CalcPost w (.agg #[.bool B0, .string N0, .string D0]) 0) := by
  obtain ⟨W0, hW0, HA, HB, HR, HE, HW⟩ := calc_boxes w s t n d m c
  have hmf : ∀ (w : World) (p q : Value), (Instr.makeFunc (.func 138) #[] #[p, q]).run Tryz.prog w = .ok (.func (.func 138) #[] #[p, q]) w := fun _ _ _ => rfl
  have Hv := Lib.hid (fun (g cap : Nat) (w : World) (h : Blk w g 25 #[.bool s, .string n, .string d, .bool t, .string m, .string c]) => valid_any g cap s t n d m c hn hd hm hc w h)
  have HOK := Lib.hid hok
  clear hn hd hm hc hok
  obtain ⟨x0, x1, x2, x3, x4, x5⟩ := six HA.out HB.out
  go_enter_defers Tryz.func99, Tryz.ntmps99
  go_wp2_with (fail)
  refine (Hv.out _ _ _ (Blk.new _ _ _)).mono ?_
  rintro e w1 ⟨h, hb⟩
  rw [HOK.out] at h
  obtain ⟨-, rfl⟩ | ⟨h, -⟩ := h
  case inr => cases h
  have HW1 := Lib.hid ((HW.out.alloc HW.out.size (.cells #[.bool s, .string n, .string d, .bool t, .string m, .string c] 25)).trans (hb.mono (by have := HW.out.size; simp; omega)))
  have HE1 := Lib.hid ((HE.out.alloc (.cells #[.bool s, .string n, .string d, .bool t, .string m, .string c] 25)).below hb (by have := HE.out.lt; simp; omega))
  have HR1 := Lib.hid ((HR.out.alloc (.cells #[.bool s, .string n, .string d, .bool t, .string m, .string c] 25)).below hb (by have := HR.out.lt; simp; omega))
  have HA1 := Lib.hid ((HA.out.alloc (.cells #[.bool s, .string n, .string d, .bool t, .string m, .string c] 25)).below hb (by have := HA.out.lt; simp; omega))
  have HB1 := Lib.hid ((HB.out.alloc (.cells #[.bool s, .string n, .string d, .bool t, .string m, .string c] 25)).below hb (by have := HB.out.lt; simp; omega))
  clear hb x0 x1 x2 x3 x4 x5 hmf HA HB HR HE HW hW0
  go_wp2_with (fail)
  refine wp_region_noPanic ?_
  refine wp_region_held_drew (S := fun w' => w'.cell? ⟨w.heap.size, 0, none⟩ = some (.bool s) ∧ w'.cell? ⟨w.heap.size, 1, none⟩ = some (.string n) ∧ w'.cell? ⟨w.heap.size, 2, none⟩ = some (.string d) ∧ w'.cell? ⟨w.heap.size + 1, 0, none⟩ = some (.bool t) ∧ w'.cell? ⟨w.heap.size + 1, 1, none⟩ = some (.string m) ∧ w'.cell? ⟨w.heap.size + 1, 2, none⟩ = some (.string c)) (by kernel_rfl) (six HA1.out.drew HB1.out.drew) (fun hS0 => ?_)
  refine wpAnyH_take (i := 1) (v := ?_) rfl (by kernel_rfl) (by kernel_rfl) (by kernel_rfl) (fun _ _ _ h => by first | exact h | simpa [PanicAs, Act.put, Array.getElem?_setIfInBounds] using h) (Or.inl ⟨by rfl, ?_⟩) (by assumption) ?_
  rotate_left
  · intro w hSw; (try dsimp only at hSw); go_simp; try with_reducible rfl
  try simp only [Act.put, List.setIfInBounds_toArray, List.set_cons_zero, List.set_cons_succ]
  refine wpAnyH_take (i := 3) (v := ?_) rfl (by kernel_rfl) (by kernel_rfl) (by kernel_rfl) (fun _ _ _ h => by first | exact h | simpa [PanicAs, Act.put, Array.getElem?_setIfInBounds] using h) (Or.inl ⟨by rfl, ?_⟩) (by assumption) ?_
  rotate_left
  · intro w hSw; (try dsimp only at hSw); go_simp; try with_reducible rfl
  try simp only [Act.put, List.setIfInBounds_toArray, List.set_cons_zero, List.set_cons_succ]
  refine wpAnyH_take (i := 4) (v := ?_) rfl (by kernel_rfl) (by kernel_rfl) (by kernel_rfl) (fun _ _ _ h => by first | exact h | simpa [PanicAs, Act.put, Array.getElem?_setIfInBounds] using h) (Or.inl ⟨by rfl, ?_⟩) (by assumption) ?_
  rotate_left
  · intro w hSw; (try dsimp only at hSw); go_simp; try with_reducible rfl
  try simp only [Act.put, List.setIfInBounds_toArray, List.set_cons_zero, List.set_cons_succ]
  refine wpAnyH_ready (rs := [0]) (by kernel_rfl) (by simp) ?_
  refine AllReadyH.cons rfl (fun K hK => ?_) ?_
  · go_simp
    refine (operations_any _).mono ?_
    rintro e w2 ⟨rfl, HM, HO0, HO1, hb⟩
    replace HM : w2.heap[w1.heap.size + 1 + 1]? = some (.map (opsEntries w1.heap.size (w1.heap.size + 1)) 4) := HM
    replace HO0 : Blk w2 w1.heap.size 207 #[.func (.func 158) #[] #[]] := HO0
    replace HO1 : Blk w2 (w1.heap.size + 1) 207 #[.func (.func 161) #[] #[]] := HO1
    have HW2 := Lib.hid (HW1.out.drew.trans (hb.mono HW1.out.drew.size))
    have HA2 := Lib.hid (HA1.out.drew.under hb)
    have HB2 := Lib.hid (HB1.out.drew.under hb)
    have HR2 := Lib.hid (HR1.out.drew.under hb)
    have HE2 := Lib.hid (HE1.out.drew.under hb)
    clear hb
    have hg := map_get (P := Tryz.prog) w2 208 9 207 _ _ _ ⟨#[42]⟩ _ _ Tryz.underlying208 Tryz.underlying9 HM (by rfl)
    clear HM
    refine hK _ _ (six HA2.out HB2.out) (fun hS2 => ?_)
    clear hK K
    refine wpAnyH_ready (rs := [2]) (by kernel_rfl) (by simp) ?_
    refine AllReadyH.cons rfl (fun K hK => ?_) ?_
    · go_simp
      refine hK _ _ (six HA2.out HB2.out) (fun hS3 => ?_)
      clear hK K
      refine wpAnyH_ready (rs := [5]) (by kernel_rfl) (by simp) ?_
      refine AllReadyH.cons rfl (fun K hK => ?_) ?_
      · go_simp
        refine (TF.out _).mono ?_
        rintro e w3 ⟨rfl, hb⟩
        have HA3 := Lib.hid (HA2.out.under hb)
        have HB3 := Lib.hid (HB2.out.under hb)
        have HR3 := Lib.hid (HR2.out.under hb)
        have HE3 := Lib.hid (HE2.out.under hb)
        have HW3 := Lib.hid (HW2.out.trans (hb.mono HW2.out.size))
        clear hb
        refine hK _ _ (six HA3.out HB3.out) (fun hS4 => ?_)
        clear hK K
        have r0 := HR3.out.cell (i := 0) rfl
        have r1 := HR3.out.cell (i := 1) rfl
        have r2 := HR3.out.cell (i := 2) rfl
        have fr := HR3.out.frozen
        refine wpAnyH_ready (rs := [6]) (by kernel_rfl) (by simp) ?_
        refine AllReadyH.cons rfl (fun K hK => ?_) ?_
        · go_simp
          refine hK _ _ (six (((HA3.out.other _ (by omega)).other _ (by omega)).other _ (by omega)) (((HB3.out.other _ (by omega)).other _ (by omega)).other _ (by omega))) (fun hS5 => ?_)
          clear hK K
          have HR4 := Lib.hid (((HR3.out.set (i := 0) (.bool B0)).set (i := 1) (.string N0)).set (i := 2) (.string D0))
          have HE4 := Lib.hid (((HE3.out.other (i := 0) (c := w.heap.size + 1 + 1) (.bool B0) (by omega)).other (i := 1) (c := w.heap.size + 1 + 1) (.string N0) (by omega)).other (i := 2) (c := w.heap.size + 1 + 1) (.string D0) (by omega))
          have HA4 := Lib.hid (((HA3.out.other (i := 0) (c := w.heap.size + 1 + 1) (.bool B0) (by omega)).other (i := 1) (c := w.heap.size + 1 + 1) (.string N0) (by omega)).other (i := 2) (c := w.heap.size + 1 + 1) (.string D0) (by omega))
          have HB4 := Lib.hid (((HB3.out.other (i := 0) (c := w.heap.size + 1 + 1) (.bool B0) (by omega)).other (i := 1) (c := w.heap.size + 1 + 1) (.string N0) (by omega)).other (i := 2) (c := w.heap.size + 1 + 1) (.string D0) (by omega))
          have HW4 := Lib.hid (((HW3.out.setCell (p := ⟨w.heap.size + 1 + 1, 0, none⟩) (by simp; omega) (.bool B0)).setCell (p := ⟨w.heap.size + 1 + 1, 1, none⟩) (by simp; omega) (.string N0)).setCell (p := ⟨w.heap.size + 1 + 1, 2, none⟩) (by simp; omega) (.string D0))
          generalize ((w3.setCell ⟨w.heap.size + 1 + 1, 0, none⟩ (.bool B0)).setCell ⟨w.heap.size + 1 + 1, 1, none⟩ (.string N0)).setCell ⟨w.heap.size + 1 + 1, 2, none⟩ (.string D0) = w4 at *
          have e0 := HE4.out.cell (i := 0) rfl
          have fe := HE4.out.frozen
          refine wpAnyH_ready (rs := [7]) (by kernel_rfl) (by simp) ?_
          refine AllReadyH.cons rfl (fun K hK => ?_) ?_
          · go_simp
            refine hK _ _ (six (HA4.out.other _ (by omega)) (HB4.out.other _ (by omega))) (fun hS6 => ?_)
            clear hK K
            refine wpAnyH_done (by kernel_rfl) ?_ _
            apply NoPanic.normal
            have HE5 := Lib.hid (HE4.out.set (i := 0) (.int .i64 0))
            have HR5 := Lib.hid (HR4.out.other (i := 0) (c := w.heap.size + 1 + 1 + 1) (.int .i64 0) (by omega))
            have HW5 := Lib.hid (HW4.out.setCell (p := ⟨w.heap.size + 1 + 1 + 1, 0, none⟩) (by simp; omega) (.int .i64 0))
            clear r0 r1 r2 fr e0 fe HA2 HA3 HA4 HB2 HB3 HB4 HR2 HR3 HR4 HE2 HE3 HE4
            generalize w4.setCell ⟨w.heap.size + 1 + 1 + 1, 0, none⟩ (.int .i64 0) = w5 at *
            have r0 := HR5.out.cell (i := 0) rfl
            have r1 := HR5.out.cell (i := 1) rfl
            have r2 := HR5.out.cell (i := 2) rfl
            have e0 := HE5.out.cell (i := 0) rfl
            go_wp2
            refine leaves_cons (f := 138) (args := #[.pointer (some ⟨w.heap.size + 1 + 1 + 1, 0, none⟩), .pointer (some ⟨w.heap.size + 1 + 1, 0, none⟩)]) (by simp) (by simp [go_sem]) ?_
            refine (calc_idle _ _ _ _ HE5.out).mono ?_
            rintro e u w6 ⟨rfl, rfl, rfl⟩
            simp [Leaves, settle, results, Tryz.results99, go_sem, r0, r1, r2, e0, CalcPost, HW5.out]
          exact AllReadyH.nil
        exact AllReadyH.nil
      exact AllReadyH.nil
    exact AllReadyH.nil
  exact AllReadyH.nil

set_option maxRecDepth 100000 in
set_option maxHeartbeats 2000000 in
theorem calc2_bad (s t : Bool) (n d m c : ByteArray) (k : Int) (hk : (k != 0) = true) (hn : n.size ≤ maxLen) (hd : d.size ≤ maxLen) (hm : m.size ≤ maxLen) (hc : c.size ≤ maxLen) (hok : (ratOk s n d && ratOk t m c) = true)
    (TF : Hid (∀ w : World, Calls Tryz.prog 161 #[.agg #[.bool s, .string n, .string d], .agg #[.bool t, .string m, .string c]] w fun e w' => e = .panicked (failv k) ∧ Below w.heap.size w w')) (w : World) :
    Calls Tryz.prog 99 #[.string ⟨#[42]⟩, .agg #[.bool s, .string n, .string d], .agg #[.bool t, .string m, .string c]] w (CalcPost w zeroR k) := by
  obtain ⟨W0, hW0, HA, HB, HR, HE, HW⟩ := calc_boxes w s t n d m c
  have hmf : ∀ (w : World) (p q : Value), (Instr.makeFunc (.func 138) #[] #[p, q]).run Tryz.prog w = .ok (.func (.func 138) #[] #[p, q]) w := fun _ _ _ => rfl
  have Hv := Lib.hid (fun (g cap : Nat) (w : World) (h : Blk w g 25 #[.bool s, .string n, .string d, .bool t, .string m, .string c]) => valid_any g cap s t n d m c hn hd hm hc w h)
  have HOK := Lib.hid hok
  clear hn hd hm hc hok
  obtain ⟨x0, x1, x2, x3, x4, x5⟩ := six HA.out HB.out
  go_enter_defers Tryz.func99, Tryz.ntmps99
  go_wp2_with (fail)
  refine (Hv.out _ _ _ (Blk.new _ _ _)).mono ?_
  rintro e w1 ⟨h, hb⟩
  rw [HOK.out] at h
  obtain ⟨-, rfl⟩ | ⟨h, -⟩ := h
  case inr => cases h
  have HW1 := Lib.hid ((HW.out.alloc HW.out.size (.cells #[.bool s, .string n, .string d, .bool t, .string m, .string c] 25)).trans (hb.mono (by have := HW.out.size; simp; omega)))
  have HE1 := Lib.hid ((HE.out.alloc (.cells #[.bool s, .string n, .string d, .bool t, .string m, .string c] 25)).below hb (by have := HE.out.lt; simp; omega))
  have HR1 := Lib.hid ((HR.out.alloc (.cells #[.bool s, .string n, .string d, .bool t, .string m, .string c] 25)).below hb (by have := HR.out.lt; simp; omega))
  have HA1 := Lib.hid ((HA.out.alloc (.cells #[.bool s, .string n, .string d, .bool t, .string m, .string c] 25)).below hb (by have := HA.out.lt; simp; omega))
  have HB1 := Lib.hid ((HB.out.alloc (.cells #[.bool s, .string n, .string d, .bool t, .string m, .string c] 25)).below hb (by have := HB.out.lt; simp; omega))
  clear hb x0 x1 x2 x3 x4 x5 hmf HA HB HR HE HW hW0
  go_wp2_with (fail)
  refine wp_region_panicAs (C := failv k) (D := [{ target := .fn (.func 138) #[.pointer (some ⟨w.heap.size + 1 + 1 + 1, 0, none⟩), .pointer (some ⟨w.heap.size + 1 + 1, 0, none⟩)], args := #[] }]) (i := 6) (j := 7) (vi := .pointer (some ⟨w.heap.size + 1 + 1, 0, none⟩)) (vj := .pointer (some ⟨w.heap.size + 1 + 1 + 1, 0, none⟩)) (R := fun w' => Blk w' (w.heap.size + 1 + 1) 25 #[.bool false, .string { data := #[] }, .string { data := #[] }] ∧ Blk w' (w.heap.size + 1 + 1 + 1) 31 #[.int .i64 0] ∧ Below w.heap.size w w') ?_ ?_
  · rintro ⟨tm, ds⟩ w4 h1 t6 t7 ⟨HR4, HE4, HW4⟩
    dsimp only at h1 t6 t7
    subst h1
    replace HR4 := Lib.hid HR4
    replace HE4 := Lib.hid HE4
    replace HW4 := Lib.hid HW4
    refine leaves_cons (f := 138) (args := #[.pointer (some ⟨w.heap.size + 1 + 1 + 1, 0, none⟩), .pointer (some ⟨w.heap.size + 1 + 1, 0, none⟩)]) (by simp) (by simp [go_sem]) ?_
    refine (calc_caught k 0 hk _ _ _ _ _ _ _ _ _ HE4.out HR4.out (by omega)).mono ?_
    rintro e u w2 ⟨rfl, rfl, w3, h3, rfl⟩
    obtain ⟨q0, q1, q2, q3, HW2⟩ := caught_end k HE4.out HR4.out HW4.out (by omega) (by omega) (by omega) h3 rfl
    generalize ((w3.setCell ⟨w.heap.size + 1 + 1, 0, none⟩ (.bool false)).setCell ⟨w.heap.size + 1 + 1, 1, none⟩ (.string { data := #[] })).setCell ⟨w.heap.size + 1 + 1, 2, none⟩ (.string { data := #[] }) = w2 at *
    simp [Leaves, settle, results, Tryz.results99, go_sem, t6, t7, q0, q1, q2, q3, CalcPost, zeroR, HW2.out]
  refine wp_region_held_drew (S := fun w' => w'.cell? ⟨w.heap.size, 0, none⟩ = some (.bool s) ∧ w'.cell? ⟨w.heap.size, 1, none⟩ = some (.string n) ∧ w'.cell? ⟨w.heap.size, 2, none⟩ = some (.string d) ∧ w'.cell? ⟨w.heap.size + 1, 0, none⟩ = some (.bool t) ∧ w'.cell? ⟨w.heap.size + 1, 1, none⟩ = some (.string m) ∧ w'.cell? ⟨w.heap.size + 1, 2, none⟩ = some (.string c)) (by kernel_rfl) (six HA1.out.drew HB1.out.drew) (fun hS0 => ?_)
  refine wpAnyH_take (i := 1) (v := ?_) rfl (by kernel_rfl) (by kernel_rfl) (by kernel_rfl) (fun _ _ _ h => by first | exact h | simpa [PanicAs, Act.put, Array.getElem?_setIfInBounds] using h) (Or.inl ⟨by rfl, ?_⟩) (by assumption) ?_
  rotate_left
  · intro w hSw; (try dsimp only at hSw); go_simp; try with_reducible rfl
  try simp only [Act.put, List.setIfInBounds_toArray, List.set_cons_zero, List.set_cons_succ]
  refine wpAnyH_take (i := 3) (v := ?_) rfl (by kernel_rfl) (by kernel_rfl) (by kernel_rfl) (fun _ _ _ h => by first | exact h | simpa [PanicAs, Act.put, Array.getElem?_setIfInBounds] using h) (Or.inl ⟨by rfl, ?_⟩) (by assumption) ?_
  rotate_left
  · intro w hSw; (try dsimp only at hSw); go_simp; try with_reducible rfl
  try simp only [Act.put, List.setIfInBounds_toArray, List.set_cons_zero, List.set_cons_succ]
  refine wpAnyH_take (i := 4) (v := ?_) rfl (by kernel_rfl) (by kernel_rfl) (by kernel_rfl) (fun _ _ _ h => by first | exact h | simpa [PanicAs, Act.put, Array.getElem?_setIfInBounds] using h) (Or.inl ⟨by rfl, ?_⟩) (by assumption) ?_
  rotate_left
  · intro w hSw; (try dsimp only at hSw); go_simp; try with_reducible rfl
  try simp only [Act.put, List.setIfInBounds_toArray, List.set_cons_zero, List.set_cons_succ]
  refine wpAnyH_ready (rs := [0]) (by kernel_rfl) (by simp) ?_
  refine AllReadyH.cons rfl (fun K hK => ?_) ?_
  · go_simp
    refine (operations_any _).mono ?_
    rintro e w2 ⟨rfl, HM, HO0, HO1, hb⟩
    replace HM : w2.heap[w1.heap.size + 1 + 1]? = some (.map (opsEntries w1.heap.size (w1.heap.size + 1)) 4) := HM
    replace HO0 : Blk w2 w1.heap.size 207 #[.func (.func 158) #[] #[]] := HO0
    replace HO1 : Blk w2 (w1.heap.size + 1) 207 #[.func (.func 161) #[] #[]] := HO1
    have HW2 := Lib.hid (HW1.out.drew.trans (hb.mono HW1.out.drew.size))
    have HA2 := Lib.hid (HA1.out.drew.under hb)
    have HB2 := Lib.hid (HB1.out.drew.under hb)
    have HR2 := Lib.hid (HR1.out.drew.under hb)
    have HE2 := Lib.hid (HE1.out.drew.under hb)
    clear hb
    have hg := map_get (P := Tryz.prog) w2 208 9 207 _ _ _ ⟨#[42]⟩ _ _ Tryz.underlying208 Tryz.underlying9 HM (by rfl)
    clear HM
    refine hK _ _ (six HA2.out HB2.out) (fun hS2 => ?_)
    clear hK K
    refine wpAnyH_ready (rs := [2]) (by kernel_rfl) (by simp) ?_
    refine AllReadyH.cons rfl (fun K hK => ?_) ?_
    · go_simp
      refine hK _ _ (six HA2.out HB2.out) (fun hS3 => ?_)
      clear hK K
      refine wpAnyH_ready (rs := [5]) (by kernel_rfl) (by simp) ?_
      refine AllReadyH.cons rfl (fun K hK => ?_) ?_
      · go_simp
        refine (TF.out _).mono ?_
        rintro e w3 ⟨rfl, hb⟩
        exact ⟨rfl, rfl, rfl, rfl, HR2.out.under hb, HE2.out.under hb, HW2.out.trans (hb.mono HW2.out.size)⟩
      exact AllReadyH.nil
    exact AllReadyH.nil
  exact AllReadyH.nil

set_option maxRecDepth 100000 in
set_option maxHeartbeats 2000000 in
theorem calc3_ok (s t : Bool) (n d m c : ByteArray) (B0 : Bool) (N0 D0 : ByteArray) (hn : n.size ≤ maxLen) (hd : d.size ≤ maxLen) (hm : m.size ≤ maxLen) (hc : c.size ≤ maxLen) (hok : (ratOk s n d && ratOk t m c) = true)
    (TF : Hid (∀ (w : World) (g : Nat), Blk w g 207 #[.func (.func 158) #[] #[]] → Calls Tryz.prog 162 #[.agg #[.bool s, .string n, .string d], .agg #[.bool t, .string m, .string c], .pointer (some ⟨g, 0, none⟩)] w fun e w' => e = .returned (.agg #[.bool B0, .string N0, .string D0]) ∧ Below w.heap.size w w')) (w : World) :
    Calls Tryz.prog 99 #[.string ⟨#[45]⟩, .agg #[.bool s, .string n, .string d], .agg #[.bool t, .string m, .string c]] w (CalcPost w (.agg #[.bool B0, .string N0, .string D0]) 0) := by
  obtain ⟨W0, hW0, HA, HB, HR, HE, HW⟩ := calc_boxes w s t n d m c
  have hmf : ∀ (w : World) (p q : Value), (Instr.makeFunc (.func 138) #[] #[p, q]).run Tryz.prog w = .ok (.func (.func 138) #[] #[p, q]) w := fun _ _ _ => rfl
  have Hv := Lib.hid (fun (g cap : Nat) (w : World) (h : Blk w g 25 #[.bool s, .string n, .string d, .bool t, .string m, .string c]) => valid_any g cap s t n d m c hn hd hm hc w h)
  have HOK := Lib.hid hok
  clear hn hd hm hc hok
  obtain ⟨x0, x1, x2, x3, x4, x5⟩ := six HA.out HB.out
  go_enter_defers Tryz.func99, Tryz.ntmps99
  go_wp2_with (fail)
  refine (Hv.out _ _ _ (Blk.new _ _ _)).mono ?_
  rintro e w1 ⟨h, hb⟩
  rw [HOK.out] at h
  obtain ⟨-, rfl⟩ | ⟨h, -⟩ := h
  case inr => cases h
  have HW1 := Lib.hid ((HW.out.alloc HW.out.size (.cells #[.bool s, .string n, .string d, .bool t, .string m, .string c] 25)).trans (hb.mono (by have := HW.out.size; simp; omega)))
  have HE1 := Lib.hid ((HE.out.alloc (.cells #[.bool s, .string n, .string d, .bool t, .string m, .string c] 25)).below hb (by have := HE.out.lt; simp; omega))
  have HR1 := Lib.hid ((HR.out.alloc (.cells #[.bool s, .string n, .string d, .bool t, .string m, .string c] 25)).below hb (by have := HR.out.lt; simp; omega))
  have HA1 := Lib.hid ((HA.out.alloc (.cells #[.bool s, .string n, .string d, .bool t, .string m, .string c] 25)).below hb (by have := HA.out.lt; simp; omega))
  have HB1 := Lib.hid ((HB.out.alloc (.cells #[.bool s, .string n, .string d, .bool t, .string m, .string c] 25)).below hb (by have := HB.out.lt; simp; omega))
  clear hb x0 x1 x2 x3 x4 x5 hmf HA HB HR HE HW hW0
  go_wp2_with (fail)
  refine wp_region_noPanic ?_
  refine wp_region_held_drew (S := fun w' => w'.cell? ⟨w.heap.size, 0, none⟩ = some (.bool s) ∧ w'.cell? ⟨w.heap.size, 1, none⟩ = some (.string n) ∧ w'.cell? ⟨w.heap.size, 2, none⟩ = some (.string d) ∧ w'.cell? ⟨w.heap.size + 1, 0, none⟩ = some (.bool t) ∧ w'.cell? ⟨w.heap.size + 1, 1, none⟩ = some (.string m) ∧ w'.cell? ⟨w.heap.size + 1, 2, none⟩ = some (.string c)) (by kernel_rfl) (six HA1.out.drew HB1.out.drew) (fun hS0 => ?_)
  refine wpAnyH_take (i := 1) (v := ?_) rfl (by kernel_rfl) (by kernel_rfl) (by kernel_rfl) (fun _ _ _ h => by first | exact h | simpa [PanicAs, Act.put, Array.getElem?_setIfInBounds] using h) (Or.inl ⟨by rfl, ?_⟩) (by assumption) ?_
  rotate_left
  · intro w hSw; (try dsimp only at hSw); go_simp; try with_reducible rfl
  try simp only [Act.put, List.setIfInBounds_toArray, List.set_cons_zero, List.set_cons_succ]
  refine wpAnyH_take (i := 3) (v := ?_) rfl (by kernel_rfl) (by kernel_rfl) (by kernel_rfl) (fun _ _ _ h => by first | exact h | simpa [PanicAs, Act.put, Array.getElem?_setIfInBounds] using h) (Or.inl ⟨by rfl, ?_⟩) (by assumption) ?_
  rotate_left
  · intro w hSw; (try dsimp only at hSw); go_simp; try with_reducible rfl
  try simp only [Act.put, List.setIfInBounds_toArray, List.set_cons_zero, List.set_cons_succ]
  refine wpAnyH_take (i := 4) (v := ?_) rfl (by kernel_rfl) (by kernel_rfl) (by kernel_rfl) (fun _ _ _ h => by first | exact h | simpa [PanicAs, Act.put, Array.getElem?_setIfInBounds] using h) (Or.inl ⟨by rfl, ?_⟩) (by assumption) ?_
  rotate_left
  · intro w hSw; (try dsimp only at hSw); go_simp; try with_reducible rfl
  try simp only [Act.put, List.setIfInBounds_toArray, List.set_cons_zero, List.set_cons_succ]
  refine wpAnyH_ready (rs := [0]) (by kernel_rfl) (by simp) ?_
  refine AllReadyH.cons rfl (fun K hK => ?_) ?_
  · go_simp
    refine (operations_any _).mono ?_
    rintro e w2 ⟨rfl, HM, HO0, HO1, hb⟩
    replace HM : w2.heap[w1.heap.size + 1 + 1]? = some (.map (opsEntries w1.heap.size (w1.heap.size + 1)) 4) := HM
    replace HO0 : Blk w2 w1.heap.size 207 #[.func (.func 158) #[] #[]] := HO0
    replace HO1 : Blk w2 (w1.heap.size + 1) 207 #[.func (.func 161) #[] #[]] := HO1
    have HW2 := Lib.hid (HW1.out.drew.trans (hb.mono HW1.out.drew.size))
    have HA2 := Lib.hid (HA1.out.drew.under hb)
    have HB2 := Lib.hid (HB1.out.drew.under hb)
    have HR2 := Lib.hid (HR1.out.drew.under hb)
    have HE2 := Lib.hid (HE1.out.drew.under hb)
    clear hb
    have hg := map_get (P := Tryz.prog) w2 208 9 207 _ _ _ ⟨#[45]⟩ _ _ Tryz.underlying208 Tryz.underlying9 HM (by rfl)
    clear HM
    refine hK _ _ (six HA2.out HB2.out) (fun hS2 => ?_)
    clear hK K
    refine wpAnyH_ready (rs := [2]) (by kernel_rfl) (by simp) ?_
    refine AllReadyH.cons rfl (fun K hK => ?_) ?_
    · go_simp
      refine hK _ _ (six HA2.out HB2.out) (fun hS3 => ?_)
      clear hK K
      refine wpAnyH_ready (rs := [5]) (by kernel_rfl) (by simp) ?_
      refine AllReadyH.cons rfl (fun K hK => ?_) ?_
      · go_simp
        refine (TF.out _ _ HO0).mono ?_
        rintro e w3 ⟨rfl, hb⟩
        have HA3 := Lib.hid (HA2.out.under hb)
        have HB3 := Lib.hid (HB2.out.under hb)
        have HR3 := Lib.hid (HR2.out.under hb)
        have HE3 := Lib.hid (HE2.out.under hb)
        have HW3 := Lib.hid (HW2.out.trans (hb.mono HW2.out.size))
        clear hb
        refine hK _ _ (six HA3.out HB3.out) (fun hS4 => ?_)
        clear hK K
        have r0 := HR3.out.cell (i := 0) rfl
        have r1 := HR3.out.cell (i := 1) rfl
        have r2 := HR3.out.cell (i := 2) rfl
        have fr := HR3.out.frozen
        refine wpAnyH_ready (rs := [6]) (by kernel_rfl) (by simp) ?_
        refine AllReadyH.cons rfl (fun K hK => ?_) ?_
        · go_simp
          refine hK _ _ (six (((HA3.out.other _ (by omega)).other _ (by omega)).other _ (by omega)) (((HB3.out.other _ (by omega)).other _ (by omega)).other _ (by omega))) (fun hS5 => ?_)
          clear hK K
          have HR4 := Lib.hid (((HR3.out.set (i := 0) (.bool B0)).set (i := 1) (.string N0)).set (i := 2) (.string D0))
          have HE4 := Lib.hid (((HE3.out.other (i := 0) (c := w.heap.size + 1 + 1) (.bool B0) (by omega)).other (i := 1) (c := w.heap.size + 1 + 1) (.string N0) (by omega)).other (i := 2) (c := w.heap.size + 1 + 1) (.string D0) (by omega))
          have HA4 := Lib.hid (((HA3.out.other (i := 0) (c := w.heap.size + 1 + 1) (.bool B0) (by omega)).other (i := 1) (c := w.heap.size + 1 + 1) (.string N0) (by omega)).other (i := 2) (c := w.heap.size + 1 + 1) (.string D0) (by omega))
          have HB4 := Lib.hid (((HB3.out.other (i := 0) (c := w.heap.size + 1 + 1) (.bool B0) (by omega)).other (i := 1) (c := w.heap.size + 1 + 1) (.string N0) (by omega)).other (i := 2) (c := w.heap.size + 1 + 1) (.string D0) (by omega))
          have HW4 := Lib.hid (((HW3.out.setCell (p := ⟨w.heap.size + 1 + 1, 0, none⟩) (by simp; omega) (.bool B0)).setCell (p := ⟨w.heap.size + 1 + 1, 1, none⟩) (by simp; omega) (.string N0)).setCell (p := ⟨w.heap.size + 1 + 1, 2, none⟩) (by simp; omega) (.string D0))
          generalize ((w3.setCell ⟨w.heap.size + 1 + 1, 0, none⟩ (.bool B0)).setCell ⟨w.heap.size + 1 + 1, 1, none⟩ (.string N0)).setCell ⟨w.heap.size + 1 + 1, 2, none⟩ (.string D0) = w4 at *
          have e0 := HE4.out.cell (i := 0) rfl
          have fe := HE4.out.frozen
          refine wpAnyH_ready (rs := [7]) (by kernel_rfl) (by simp) ?_
          refine AllReadyH.cons rfl (fun K hK => ?_) ?_
          · go_simp
            refine hK _ _ (six (HA4.out.other _ (by omega)) (HB4.out.other _ (by omega))) (fun hS6 => ?_)
            clear hK K
            refine wpAnyH_done (by kernel_rfl) ?_ _
            apply NoPanic.normal
            have HE5 := Lib.hid (HE4.out.set (i := 0) (.int .i64 0))
            have HR5 := Lib.hid (HR4.out.other (i := 0) (c := w.heap.size + 1 + 1 + 1) (.int .i64 0) (by omega))
            have HW5 := Lib.hid (HW4.out.setCell (p := ⟨w.heap.size + 1 + 1 + 1, 0, none⟩) (by simp; omega) (.int .i64 0))
            clear r0 r1 r2 fr e0 fe HA2 HA3 HA4 HB2 HB3 HB4 HR2 HR3 HR4 HE2 HE3 HE4
            generalize w4.setCell ⟨w.heap.size + 1 + 1 + 1, 0, none⟩ (.int .i64 0) = w5 at *
            have r0 := HR5.out.cell (i := 0) rfl
            have r1 := HR5.out.cell (i := 1) rfl
            have r2 := HR5.out.cell (i := 2) rfl
            have e0 := HE5.out.cell (i := 0) rfl
            go_wp2
            refine leaves_cons (f := 138) (args := #[.pointer (some ⟨w.heap.size + 1 + 1 + 1, 0, none⟩), .pointer (some ⟨w.heap.size + 1 + 1, 0, none⟩)]) (by simp) (by simp [go_sem]) ?_
            refine (calc_idle _ _ _ _ HE5.out).mono ?_
            rintro e u w6 ⟨rfl, rfl, rfl⟩
            simp [Leaves, settle, results, Tryz.results99, go_sem, r0, r1, r2, e0, CalcPost, HW5.out]
          exact AllReadyH.nil
        exact AllReadyH.nil
      exact AllReadyH.nil
    exact AllReadyH.nil
  exact AllReadyH.nil

set_option maxRecDepth 100000 in
set_option maxHeartbeats 2000000 in
theorem calc3_bad (s t : Bool) (n d m c : ByteArray) (k : Int) (hk : (k != 0) = true) (hn : n.size ≤ maxLen) (hd : d.size ≤ maxLen) (hm : m.size ≤ maxLen) (hc : c.size ≤ maxLen) (hok : (ratOk s n d && ratOk t m c) = true)
    (TF : Hid (∀ (w : World) (g : Nat), Blk w g 207 #[.func (.func 158) #[] #[]] → Calls Tryz.prog 162 #[.agg #[.bool s, .string n, .string d], .agg #[.bool t, .string m, .string c], .pointer (some ⟨g, 0, none⟩)] w fun e w' => e = .panicked (failv k) ∧ Below w.heap.size w w')) (w : World) :
    Calls Tryz.prog 99 #[.string ⟨#[45]⟩, .agg #[.bool s, .string n, .string d], .agg #[.bool t, .string m, .string c]] w (CalcPost w zeroR k) := by
  obtain ⟨W0, hW0, HA, HB, HR, HE, HW⟩ := calc_boxes w s t n d m c
  have hmf : ∀ (w : World) (p q : Value), (Instr.makeFunc (.func 138) #[] #[p, q]).run Tryz.prog w = .ok (.func (.func 138) #[] #[p, q]) w := fun _ _ _ => rfl
  have Hv := Lib.hid (fun (g cap : Nat) (w : World) (h : Blk w g 25 #[.bool s, .string n, .string d, .bool t, .string m, .string c]) => valid_any g cap s t n d m c hn hd hm hc w h)
  have HOK := Lib.hid hok
  clear hn hd hm hc hok
  obtain ⟨x0, x1, x2, x3, x4, x5⟩ := six HA.out HB.out
  go_enter_defers Tryz.func99, Tryz.ntmps99
  go_wp2_with (fail)
  refine (Hv.out _ _ _ (Blk.new _ _ _)).mono ?_
  rintro e w1 ⟨h, hb⟩
  rw [HOK.out] at h
  obtain ⟨-, rfl⟩ | ⟨h, -⟩ := h
  case inr => cases h
  have HW1 := Lib.hid ((HW.out.alloc HW.out.size (.cells #[.bool s, .string n, .string d, .bool t, .string m, .string c] 25)).trans (hb.mono (by have := HW.out.size; simp; omega)))
  have HE1 := Lib.hid ((HE.out.alloc (.cells #[.bool s, .string n, .string d, .bool t, .string m, .string c] 25)).below hb (by have := HE.out.lt; simp; omega))
  have HR1 := Lib.hid ((HR.out.alloc (.cells #[.bool s, .string n, .string d, .bool t, .string m, .string c] 25)).below hb (by have := HR.out.lt; simp; omega))
  have HA1 := Lib.hid ((HA.out.alloc (.cells #[.bool s, .string n, .string d, .bool t, .string m, .string c] 25)).below hb (by have := HA.out.lt; simp; omega))
  have HB1 := Lib.hid ((HB.out.alloc (.cells #[.bool s, .string n, .string d, .bool t, .string m, .string c] 25)).below hb (by have := HB.out.lt; simp; omega))
  clear hb x0 x1 x2 x3 x4 x5 hmf HA HB HR HE HW hW0
  go_wp2_with (fail)
  refine wp_region_panicAs (C := failv k) (D := [{ target := .fn (.func 138) #[.pointer (some ⟨w.heap.size + 1 + 1 + 1, 0, none⟩), .pointer (some ⟨w.heap.size + 1 + 1, 0, none⟩)], args := #[] }]) (i := 6) (j := 7) (vi := .pointer (some ⟨w.heap.size + 1 + 1, 0, none⟩)) (vj := .pointer (some ⟨w.heap.size + 1 + 1 + 1, 0, none⟩)) (R := fun w' => Blk w' (w.heap.size + 1 + 1) 25 #[.bool false, .string { data := #[] }, .string { data := #[] }] ∧ Blk w' (w.heap.size + 1 + 1 + 1) 31 #[.int .i64 0] ∧ Below w.heap.size w w') ?_ ?_
  · rintro ⟨tm, ds⟩ w4 h1 t6 t7 ⟨HR4, HE4, HW4⟩
    dsimp only at h1 t6 t7
    subst h1
    replace HR4 := Lib.hid HR4
    replace HE4 := Lib.hid HE4
    replace HW4 := Lib.hid HW4
    refine leaves_cons (f := 138) (args := #[.pointer (some ⟨w.heap.size + 1 + 1 + 1, 0, none⟩), .pointer (some ⟨w.heap.size + 1 + 1, 0, none⟩)]) (by simp) (by simp [go_sem]) ?_
    refine (calc_caught k 0 hk _ _ _ _ _ _ _ _ _ HE4.out HR4.out (by omega)).mono ?_
    rintro e u w2 ⟨rfl, rfl, w3, h3, rfl⟩
    obtain ⟨q0, q1, q2, q3, HW2⟩ := caught_end k HE4.out HR4.out HW4.out (by omega) (by omega) (by omega) h3 rfl
    generalize ((w3.setCell ⟨w.heap.size + 1 + 1, 0, none⟩ (.bool false)).setCell ⟨w.heap.size + 1 + 1, 1, none⟩ (.string { data := #[] })).setCell ⟨w.heap.size + 1 + 1, 2, none⟩ (.string { data := #[] }) = w2 at *
    simp [Leaves, settle, results, Tryz.results99, go_sem, t6, t7, q0, q1, q2, q3, CalcPost, zeroR, HW2.out]
  refine wp_region_held_drew (S := fun w' => w'.cell? ⟨w.heap.size, 0, none⟩ = some (.bool s) ∧ w'.cell? ⟨w.heap.size, 1, none⟩ = some (.string n) ∧ w'.cell? ⟨w.heap.size, 2, none⟩ = some (.string d) ∧ w'.cell? ⟨w.heap.size + 1, 0, none⟩ = some (.bool t) ∧ w'.cell? ⟨w.heap.size + 1, 1, none⟩ = some (.string m) ∧ w'.cell? ⟨w.heap.size + 1, 2, none⟩ = some (.string c)) (by kernel_rfl) (six HA1.out.drew HB1.out.drew) (fun hS0 => ?_)
  refine wpAnyH_take (i := 1) (v := ?_) rfl (by kernel_rfl) (by kernel_rfl) (by kernel_rfl) (fun _ _ _ h => by first | exact h | simpa [PanicAs, Act.put, Array.getElem?_setIfInBounds] using h) (Or.inl ⟨by rfl, ?_⟩) (by assumption) ?_
  rotate_left
  · intro w hSw; (try dsimp only at hSw); go_simp; try with_reducible rfl
  try simp only [Act.put, List.setIfInBounds_toArray, List.set_cons_zero, List.set_cons_succ]
  refine wpAnyH_take (i := 3) (v := ?_) rfl (by kernel_rfl) (by kernel_rfl) (by kernel_rfl) (fun _ _ _ h => by first | exact h | simpa [PanicAs, Act.put, Array.getElem?_setIfInBounds] using h) (Or.inl ⟨by rfl, ?_⟩) (by assumption) ?_
  rotate_left
  · intro w hSw; (try dsimp only at hSw); go_simp; try with_reducible rfl
  try simp only [Act.put, List.setIfInBounds_toArray, List.set_cons_zero, List.set_cons_succ]
  refine wpAnyH_take (i := 4) (v := ?_) rfl (by kernel_rfl) (by kernel_rfl) (by kernel_rfl) (fun _ _ _ h => by first | exact h | simpa [PanicAs, Act.put, Array.getElem?_setIfInBounds] using h) (Or.inl ⟨by rfl, ?_⟩) (by assumption) ?_
  rotate_left
  · intro w hSw; (try dsimp only at hSw); go_simp; try with_reducible rfl
  try simp only [Act.put, List.setIfInBounds_toArray, List.set_cons_zero, List.set_cons_succ]
  refine wpAnyH_ready (rs := [0]) (by kernel_rfl) (by simp) ?_
  refine AllReadyH.cons rfl (fun K hK => ?_) ?_
  · go_simp
    refine (operations_any _).mono ?_
    rintro e w2 ⟨rfl, HM, HO0, HO1, hb⟩
    replace HM : w2.heap[w1.heap.size + 1 + 1]? = some (.map (opsEntries w1.heap.size (w1.heap.size + 1)) 4) := HM
    replace HO0 : Blk w2 w1.heap.size 207 #[.func (.func 158) #[] #[]] := HO0
    replace HO1 : Blk w2 (w1.heap.size + 1) 207 #[.func (.func 161) #[] #[]] := HO1
    have HW2 := Lib.hid (HW1.out.drew.trans (hb.mono HW1.out.drew.size))
    have HA2 := Lib.hid (HA1.out.drew.under hb)
    have HB2 := Lib.hid (HB1.out.drew.under hb)
    have HR2 := Lib.hid (HR1.out.drew.under hb)
    have HE2 := Lib.hid (HE1.out.drew.under hb)
    clear hb
    have hg := map_get (P := Tryz.prog) w2 208 9 207 _ _ _ ⟨#[45]⟩ _ _ Tryz.underlying208 Tryz.underlying9 HM (by rfl)
    clear HM
    refine hK _ _ (six HA2.out HB2.out) (fun hS2 => ?_)
    clear hK K
    refine wpAnyH_ready (rs := [2]) (by kernel_rfl) (by simp) ?_
    refine AllReadyH.cons rfl (fun K hK => ?_) ?_
    · go_simp
      refine hK _ _ (six HA2.out HB2.out) (fun hS3 => ?_)
      clear hK K
      refine wpAnyH_ready (rs := [5]) (by kernel_rfl) (by simp) ?_
      refine AllReadyH.cons rfl (fun K hK => ?_) ?_
      · go_simp
        refine (TF.out _ _ HO0).mono ?_
        rintro e w3 ⟨rfl, hb⟩
        exact ⟨rfl, rfl, rfl, rfl, HR2.out.under hb, HE2.out.under hb, HW2.out.trans (hb.mono HW2.out.size)⟩
      exact AllReadyH.nil
    exact AllReadyH.nil
  exact AllReadyH.nil

set_option maxRecDepth 100000 in
set_option maxHeartbeats 2000000 in
theorem calc4_ok (s t : Bool) (n d m c : ByteArray) (B0 : Bool) (N0 D0 : ByteArray) (hn : n.size ≤ maxLen) (hd : d.size ≤ maxLen) (hm : m.size ≤ maxLen) (hc : c.size ≤ maxLen) (hok : (ratOk s n d && ratOk t m c) = true)
    (TF : Hid (∀ (w : World) (g : Nat), Blk w g 207 #[.func (.func 161) #[] #[]] → Calls Tryz.prog 163 #[.agg #[.bool s, .string n, .string d], .agg #[.bool t, .string m, .string c], .pointer (some ⟨g, 0, none⟩)] w fun e w' => e = .returned (.agg #[.bool B0, .string N0, .string D0]) ∧ Below w.heap.size w w')) (w : World) :
    Calls Tryz.prog 99 #[.string ⟨#[47]⟩, .agg #[.bool s, .string n, .string d], .agg #[.bool t, .string m, .string c]] w (CalcPost w (.agg #[.bool B0, .string N0, .string D0]) 0) := by
  obtain ⟨W0, hW0, HA, HB, HR, HE, HW⟩ := calc_boxes w s t n d m c
  have hmf : ∀ (w : World) (p q : Value), (Instr.makeFunc (.func 138) #[] #[p, q]).run Tryz.prog w = .ok (.func (.func 138) #[] #[p, q]) w := fun _ _ _ => rfl
  have Hv := Lib.hid (fun (g cap : Nat) (w : World) (h : Blk w g 25 #[.bool s, .string n, .string d, .bool t, .string m, .string c]) => valid_any g cap s t n d m c hn hd hm hc w h)
  have HOK := Lib.hid hok
  clear hn hd hm hc hok
  obtain ⟨x0, x1, x2, x3, x4, x5⟩ := six HA.out HB.out
  go_enter_defers Tryz.func99, Tryz.ntmps99
  go_wp2_with (fail)
  refine (Hv.out _ _ _ (Blk.new _ _ _)).mono ?_
  rintro e w1 ⟨h, hb⟩
  rw [HOK.out] at h
  obtain ⟨-, rfl⟩ | ⟨h, -⟩ := h
  case inr => cases h
  have HW1 := Lib.hid ((HW.out.alloc HW.out.size (.cells #[.bool s, .string n, .string d, .bool t, .string m, .string c] 25)).trans (hb.mono (by have := HW.out.size; simp; omega)))
  have HE1 := Lib.hid ((HE.out.alloc (.cells #[.bool s, .string n, .string d, .bool t, .string m, .string c] 25)).below hb (by have := HE.out.lt; simp; omega))
  have HR1 := Lib.hid ((HR.out.alloc (.cells #[.bool s, .string n, .string d, .bool t, .string m, .string c] 25)).below hb (by have := HR.out.lt; simp; omega))
  have HA1 := Lib.hid ((HA.out.alloc (.cells #[.bool s, .string n, .string d, .bool t, .string m, .string c] 25)).below hb (by have := HA.out.lt; simp; omega))
  have HB1 := Lib.hid ((HB.out.alloc (.cells #[.bool s, .string n, .string d, .bool t, .string m, .string c] 25)).below hb (by have := HB.out.lt; simp; omega))
  clear hb x0 x1 x2 x3 x4 x5 hmf HA HB HR HE HW hW0
  go_wp2_with (fail)
  refine wp_region_noPanic ?_
  refine wp_region_held_drew (S := fun w' => w'.cell? ⟨w.heap.size, 0, none⟩ = some (.bool s) ∧ w'.cell? ⟨w.heap.size, 1, none⟩ = some (.string n) ∧ w'.cell? ⟨w.heap.size, 2, none⟩ = some (.string d) ∧ w'.cell? ⟨w.heap.size + 1, 0, none⟩ = some (.bool t) ∧ w'.cell? ⟨w.heap.size + 1, 1, none⟩ = some (.string m) ∧ w'.cell? ⟨w.heap.size + 1, 2, none⟩ = some (.string c)) (by kernel_rfl) (six HA1.out.drew HB1.out.drew) (fun hS0 => ?_)
  refine wpAnyH_take (i := 1) (v := ?_) rfl (by kernel_rfl) (by kernel_rfl) (by kernel_rfl) (fun _ _ _ h => by first | exact h | simpa [PanicAs, Act.put, Array.getElem?_setIfInBounds] using h) (Or.inl ⟨by rfl, ?_⟩) (by assumption) ?_
  rotate_left
  · intro w hSw; (try dsimp only at hSw); go_simp; try with_reducible rfl
  try simp only [Act.put, List.setIfInBounds_toArray, List.set_cons_zero, List.set_cons_succ]
  refine wpAnyH_take (i := 3) (v := ?_) rfl (by kernel_rfl) (by kernel_rfl) (by kernel_rfl) (fun _ _ _ h => by first | exact h | simpa [PanicAs, Act.put, Array.getElem?_setIfInBounds] using h) (Or.inl ⟨by rfl, ?_⟩) (by assumption) ?_
  rotate_left
  · intro w hSw; (try dsimp only at hSw); go_simp; try with_reducible rfl
  try simp only [Act.put, List.setIfInBounds_toArray, List.set_cons_zero, List.set_cons_succ]
  refine wpAnyH_take (i := 4) (v := ?_) rfl (by kernel_rfl) (by kernel_rfl) (by kernel_rfl) (fun _ _ _ h => by first | exact h | simpa [PanicAs, Act.put, Array.getElem?_setIfInBounds] using h) (Or.inl ⟨by rfl, ?_⟩) (by assumption) ?_
  rotate_left
  · intro w hSw; (try dsimp only at hSw); go_simp; try with_reducible rfl
  try simp only [Act.put, List.setIfInBounds_toArray, List.set_cons_zero, List.set_cons_succ]
  refine wpAnyH_ready (rs := [0]) (by kernel_rfl) (by simp) ?_
  refine AllReadyH.cons rfl (fun K hK => ?_) ?_
  · go_simp
    refine (operations_any _).mono ?_
    rintro e w2 ⟨rfl, HM, HO0, HO1, hb⟩
    replace HM : w2.heap[w1.heap.size + 1 + 1]? = some (.map (opsEntries w1.heap.size (w1.heap.size + 1)) 4) := HM
    replace HO0 : Blk w2 w1.heap.size 207 #[.func (.func 158) #[] #[]] := HO0
    replace HO1 : Blk w2 (w1.heap.size + 1) 207 #[.func (.func 161) #[] #[]] := HO1
    have HW2 := Lib.hid (HW1.out.drew.trans (hb.mono HW1.out.drew.size))
    have HA2 := Lib.hid (HA1.out.drew.under hb)
    have HB2 := Lib.hid (HB1.out.drew.under hb)
    have HR2 := Lib.hid (HR1.out.drew.under hb)
    have HE2 := Lib.hid (HE1.out.drew.under hb)
    clear hb
    have hg := map_get (P := Tryz.prog) w2 208 9 207 _ _ _ ⟨#[47]⟩ _ _ Tryz.underlying208 Tryz.underlying9 HM (by rfl)
    clear HM
    refine hK _ _ (six HA2.out HB2.out) (fun hS2 => ?_)
    clear hK K
    refine wpAnyH_ready (rs := [2]) (by kernel_rfl) (by simp) ?_
    refine AllReadyH.cons rfl (fun K hK => ?_) ?_
    · go_simp
      refine hK _ _ (six HA2.out HB2.out) (fun hS3 => ?_)
      clear hK K
      refine wpAnyH_ready (rs := [5]) (by kernel_rfl) (by simp) ?_
      refine AllReadyH.cons rfl (fun K hK => ?_) ?_
      · go_simp
        refine (TF.out _ _ HO1).mono ?_
        rintro e w3 ⟨rfl, hb⟩
        have HA3 := Lib.hid (HA2.out.under hb)
        have HB3 := Lib.hid (HB2.out.under hb)
        have HR3 := Lib.hid (HR2.out.under hb)
        have HE3 := Lib.hid (HE2.out.under hb)
        have HW3 := Lib.hid (HW2.out.trans (hb.mono HW2.out.size))
        clear hb
        refine hK _ _ (six HA3.out HB3.out) (fun hS4 => ?_)
        clear hK K
        have r0 := HR3.out.cell (i := 0) rfl
        have r1 := HR3.out.cell (i := 1) rfl
        have r2 := HR3.out.cell (i := 2) rfl
        have fr := HR3.out.frozen
        refine wpAnyH_ready (rs := [6]) (by kernel_rfl) (by simp) ?_
        refine AllReadyH.cons rfl (fun K hK => ?_) ?_
        · go_simp
          refine hK _ _ (six (((HA3.out.other _ (by omega)).other _ (by omega)).other _ (by omega)) (((HB3.out.other _ (by omega)).other _ (by omega)).other _ (by omega))) (fun hS5 => ?_)
          clear hK K
          have HR4 := Lib.hid (((HR3.out.set (i := 0) (.bool B0)).set (i := 1) (.string N0)).set (i := 2) (.string D0))
          have HE4 := Lib.hid (((HE3.out.other (i := 0) (c := w.heap.size + 1 + 1) (.bool B0) (by omega)).other (i := 1) (c := w.heap.size + 1 + 1) (.string N0) (by omega)).other (i := 2) (c := w.heap.size + 1 + 1) (.string D0) (by omega))
          have HA4 := Lib.hid (((HA3.out.other (i := 0) (c := w.heap.size + 1 + 1) (.bool B0) (by omega)).other (i := 1) (c := w.heap.size + 1 + 1) (.string N0) (by omega)).other (i := 2) (c := w.heap.size + 1 + 1) (.string D0) (by omega))
          have HB4 := Lib.hid (((HB3.out.other (i := 0) (c := w.heap.size + 1 + 1) (.bool B0) (by omega)).other (i := 1) (c := w.heap.size + 1 + 1) (.string N0) (by omega)).other (i := 2) (c := w.heap.size + 1 + 1) (.string D0) (by omega))
          have HW4 := Lib.hid (((HW3.out.setCell (p := ⟨w.heap.size + 1 + 1, 0, none⟩) (by simp; omega) (.bool B0)).setCell (p := ⟨w.heap.size + 1 + 1, 1, none⟩) (by simp; omega) (.string N0)).setCell (p := ⟨w.heap.size + 1 + 1, 2, none⟩) (by simp; omega) (.string D0))
          generalize ((w3.setCell ⟨w.heap.size + 1 + 1, 0, none⟩ (.bool B0)).setCell ⟨w.heap.size + 1 + 1, 1, none⟩ (.string N0)).setCell ⟨w.heap.size + 1 + 1, 2, none⟩ (.string D0) = w4 at *
          have e0 := HE4.out.cell (i := 0) rfl
          have fe := HE4.out.frozen
          refine wpAnyH_ready (rs := [7]) (by kernel_rfl) (by simp) ?_
          refine AllReadyH.cons rfl (fun K hK => ?_) ?_
          · go_simp
            refine hK _ _ (six (HA4.out.other _ (by omega)) (HB4.out.other _ (by omega))) (fun hS6 => ?_)
            clear hK K
            refine wpAnyH_done (by kernel_rfl) ?_ _
            apply NoPanic.normal
            have HE5 := Lib.hid (HE4.out.set (i := 0) (.int .i64 0))
            have HR5 := Lib.hid (HR4.out.other (i := 0) (c := w.heap.size + 1 + 1 + 1) (.int .i64 0) (by omega))
            have HW5 := Lib.hid (HW4.out.setCell (p := ⟨w.heap.size + 1 + 1 + 1, 0, none⟩) (by simp; omega) (.int .i64 0))
            clear r0 r1 r2 fr e0 fe HA2 HA3 HA4 HB2 HB3 HB4 HR2 HR3 HR4 HE2 HE3 HE4
            generalize w4.setCell ⟨w.heap.size + 1 + 1 + 1, 0, none⟩ (.int .i64 0) = w5 at *
            have r0 := HR5.out.cell (i := 0) rfl
            have r1 := HR5.out.cell (i := 1) rfl
            have r2 := HR5.out.cell (i := 2) rfl
            have e0 := HE5.out.cell (i := 0) rfl
            go_wp2
            refine leaves_cons (f := 138) (args := #[.pointer (some ⟨w.heap.size + 1 + 1 + 1, 0, none⟩), .pointer (some ⟨w.heap.size + 1 + 1, 0, none⟩)]) (by simp) (by simp [go_sem]) ?_
            refine (calc_idle _ _ _ _ HE5.out).mono ?_
            rintro e u w6 ⟨rfl, rfl, rfl⟩
            simp [Leaves, settle, results, Tryz.results99, go_sem, r0, r1, r2, e0, CalcPost, HW5.out]
          exact AllReadyH.nil
        exact AllReadyH.nil
      exact AllReadyH.nil
    exact AllReadyH.nil
  exact AllReadyH.nil

set_option maxRecDepth 100000 in
set_option maxHeartbeats 2000000 in
theorem calc4_bad (s t : Bool) (n d m c : ByteArray) (k : Int) (hk : (k != 0) = true) (hn : n.size ≤ maxLen) (hd : d.size ≤ maxLen) (hm : m.size ≤ maxLen) (hc : c.size ≤ maxLen) (hok : (ratOk s n d && ratOk t m c) = true)
    (TF : Hid (∀ (w : World) (g : Nat), Blk w g 207 #[.func (.func 161) #[] #[]] → Calls Tryz.prog 163 #[.agg #[.bool s, .string n, .string d], .agg #[.bool t, .string m, .string c], .pointer (some ⟨g, 0, none⟩)] w fun e w' => e = .panicked (failv k) ∧ Below w.heap.size w w')) (w : World) :
    Calls Tryz.prog 99 #[.string ⟨#[47]⟩, .agg #[.bool s, .string n, .string d], .agg #[.bool t, .string m, .string c]] w (CalcPost w zeroR k) := by
  obtain ⟨W0, hW0, HA, HB, HR, HE, HW⟩ := calc_boxes w s t n d m c
  have hmf : ∀ (w : World) (p q : Value), (Instr.makeFunc (.func 138) #[] #[p, q]).run Tryz.prog w = .ok (.func (.func 138) #[] #[p, q]) w := fun _ _ _ => rfl
  have Hv := Lib.hid (fun (g cap : Nat) (w : World) (h : Blk w g 25 #[.bool s, .string n, .string d, .bool t, .string m, .string c]) => valid_any g cap s t n d m c hn hd hm hc w h)
  have HOK := Lib.hid hok
  clear hn hd hm hc hok
  obtain ⟨x0, x1, x2, x3, x4, x5⟩ := six HA.out HB.out
  go_enter_defers Tryz.func99, Tryz.ntmps99
  go_wp2_with (fail)
  refine (Hv.out _ _ _ (Blk.new _ _ _)).mono ?_
  rintro e w1 ⟨h, hb⟩
  rw [HOK.out] at h
  obtain ⟨-, rfl⟩ | ⟨h, -⟩ := h
  case inr => cases h
  have HW1 := Lib.hid ((HW.out.alloc HW.out.size (.cells #[.bool s, .string n, .string d, .bool t, .string m, .string c] 25)).trans (hb.mono (by have := HW.out.size; simp; omega)))
  have HE1 := Lib.hid ((HE.out.alloc (.cells #[.bool s, .string n, .string d, .bool t, .string m, .string c] 25)).below hb (by have := HE.out.lt; simp; omega))
  have HR1 := Lib.hid ((HR.out.alloc (.cells #[.bool s, .string n, .string d, .bool t, .string m, .string c] 25)).below hb (by have := HR.out.lt; simp; omega))
  have HA1 := Lib.hid ((HA.out.alloc (.cells #[.bool s, .string n, .string d, .bool t, .string m, .string c] 25)).below hb (by have := HA.out.lt; simp; omega))
  have HB1 := Lib.hid ((HB.out.alloc (.cells #[.bool s, .string n, .string d, .bool t, .string m, .string c] 25)).below hb (by have := HB.out.lt; simp; omega))
  clear hb x0 x1 x2 x3 x4 x5 hmf HA HB HR HE HW hW0
  go_wp2_with (fail)
  refine wp_region_panicAs (C := failv k) (D := [{ target := .fn (.func 138) #[.pointer (some ⟨w.heap.size + 1 + 1 + 1, 0, none⟩), .pointer (some ⟨w.heap.size + 1 + 1, 0, none⟩)], args := #[] }]) (i := 6) (j := 7) (vi := .pointer (some ⟨w.heap.size + 1 + 1, 0, none⟩)) (vj := .pointer (some ⟨w.heap.size + 1 + 1 + 1, 0, none⟩)) (R := fun w' => Blk w' (w.heap.size + 1 + 1) 25 #[.bool false, .string { data := #[] }, .string { data := #[] }] ∧ Blk w' (w.heap.size + 1 + 1 + 1) 31 #[.int .i64 0] ∧ Below w.heap.size w w') ?_ ?_
  · rintro ⟨tm, ds⟩ w4 h1 t6 t7 ⟨HR4, HE4, HW4⟩
    dsimp only at h1 t6 t7
    subst h1
    replace HR4 := Lib.hid HR4
    replace HE4 := Lib.hid HE4
    replace HW4 := Lib.hid HW4
    refine leaves_cons (f := 138) (args := #[.pointer (some ⟨w.heap.size + 1 + 1 + 1, 0, none⟩), .pointer (some ⟨w.heap.size + 1 + 1, 0, none⟩)]) (by simp) (by simp [go_sem]) ?_
    refine (calc_caught k 0 hk _ _ _ _ _ _ _ _ _ HE4.out HR4.out (by omega)).mono ?_
    rintro e u w2 ⟨rfl, rfl, w3, h3, rfl⟩
    obtain ⟨q0, q1, q2, q3, HW2⟩ := caught_end k HE4.out HR4.out HW4.out (by omega) (by omega) (by omega) h3 rfl
    generalize ((w3.setCell ⟨w.heap.size + 1 + 1, 0, none⟩ (.bool false)).setCell ⟨w.heap.size + 1 + 1, 1, none⟩ (.string { data := #[] })).setCell ⟨w.heap.size + 1 + 1, 2, none⟩ (.string { data := #[] }) = w2 at *
    simp [Leaves, settle, results, Tryz.results99, go_sem, t6, t7, q0, q1, q2, q3, CalcPost, zeroR, HW2.out]
  refine wp_region_held_drew (S := fun w' => w'.cell? ⟨w.heap.size, 0, none⟩ = some (.bool s) ∧ w'.cell? ⟨w.heap.size, 1, none⟩ = some (.string n) ∧ w'.cell? ⟨w.heap.size, 2, none⟩ = some (.string d) ∧ w'.cell? ⟨w.heap.size + 1, 0, none⟩ = some (.bool t) ∧ w'.cell? ⟨w.heap.size + 1, 1, none⟩ = some (.string m) ∧ w'.cell? ⟨w.heap.size + 1, 2, none⟩ = some (.string c)) (by kernel_rfl) (six HA1.out.drew HB1.out.drew) (fun hS0 => ?_)
  refine wpAnyH_take (i := 1) (v := ?_) rfl (by kernel_rfl) (by kernel_rfl) (by kernel_rfl) (fun _ _ _ h => by first | exact h | simpa [PanicAs, Act.put, Array.getElem?_setIfInBounds] using h) (Or.inl ⟨by rfl, ?_⟩) (by assumption) ?_
  rotate_left
  · intro w hSw; (try dsimp only at hSw); go_simp; try with_reducible rfl
  try simp only [Act.put, List.setIfInBounds_toArray, List.set_cons_zero, List.set_cons_succ]
  refine wpAnyH_take (i := 3) (v := ?_) rfl (by kernel_rfl) (by kernel_rfl) (by kernel_rfl) (fun _ _ _ h => by first | exact h | simpa [PanicAs, Act.put, Array.getElem?_setIfInBounds] using h) (Or.inl ⟨by rfl, ?_⟩) (by assumption) ?_
  rotate_left
  · intro w hSw; (try dsimp only at hSw); go_simp; try with_reducible rfl
  try simp only [Act.put, List.setIfInBounds_toArray, List.set_cons_zero, List.set_cons_succ]
  refine wpAnyH_take (i := 4) (v := ?_) rfl (by kernel_rfl) (by kernel_rfl) (by kernel_rfl) (fun _ _ _ h => by first | exact h | simpa [PanicAs, Act.put, Array.getElem?_setIfInBounds] using h) (Or.inl ⟨by rfl, ?_⟩) (by assumption) ?_
  rotate_left
  · intro w hSw; (try dsimp only at hSw); go_simp; try with_reducible rfl
  try simp only [Act.put, List.setIfInBounds_toArray, List.set_cons_zero, List.set_cons_succ]
  refine wpAnyH_ready (rs := [0]) (by kernel_rfl) (by simp) ?_
  refine AllReadyH.cons rfl (fun K hK => ?_) ?_
  · go_simp
    refine (operations_any _).mono ?_
    rintro e w2 ⟨rfl, HM, HO0, HO1, hb⟩
    replace HM : w2.heap[w1.heap.size + 1 + 1]? = some (.map (opsEntries w1.heap.size (w1.heap.size + 1)) 4) := HM
    replace HO0 : Blk w2 w1.heap.size 207 #[.func (.func 158) #[] #[]] := HO0
    replace HO1 : Blk w2 (w1.heap.size + 1) 207 #[.func (.func 161) #[] #[]] := HO1
    have HW2 := Lib.hid (HW1.out.drew.trans (hb.mono HW1.out.drew.size))
    have HA2 := Lib.hid (HA1.out.drew.under hb)
    have HB2 := Lib.hid (HB1.out.drew.under hb)
    have HR2 := Lib.hid (HR1.out.drew.under hb)
    have HE2 := Lib.hid (HE1.out.drew.under hb)
    clear hb
    have hg := map_get (P := Tryz.prog) w2 208 9 207 _ _ _ ⟨#[47]⟩ _ _ Tryz.underlying208 Tryz.underlying9 HM (by rfl)
    clear HM
    refine hK _ _ (six HA2.out HB2.out) (fun hS2 => ?_)
    clear hK K
    refine wpAnyH_ready (rs := [2]) (by kernel_rfl) (by simp) ?_
    refine AllReadyH.cons rfl (fun K hK => ?_) ?_
    · go_simp
      refine hK _ _ (six HA2.out HB2.out) (fun hS3 => ?_)
      clear hK K
      refine wpAnyH_ready (rs := [5]) (by kernel_rfl) (by simp) ?_
      refine AllReadyH.cons rfl (fun K hK => ?_) ?_
      · go_simp
        refine (TF.out _ _ HO1).mono ?_
        rintro e w3 ⟨rfl, hb⟩
        exact ⟨rfl, rfl, rfl, rfl, HR2.out.under hb, HE2.out.under hb, HW2.out.trans (hb.mono HW2.out.size)⟩
      exact AllReadyH.nil
    exact AllReadyH.nil
  exact AllReadyH.nil

end Go.Proofs.YteggbpaljmopoaaGreat
/- ratios: the operations, in terms of Rat. -/
namespace Go.Proofs.YteggbpaljmopoaaGreat
open Go.RowKit BF
theorem Rat.num_neg (b : Rat) : (-b).num = -b.num := rfl
theorem Rat.den_neg (b : Rat) : (-b).den = b.den := rfl

def okQ (q : Rat) : Prop := small q.num.natAbs ∧ small q.den
def addFits (a b : Rat) : Prop := small (a.den * b.den) ∧ small (a.num.natAbs * b.den) ∧ small (b.num.natAbs * a.den) ∧ (decide (a < 0) = decide (b < 0) → small (a.num.natAbs * b.den + b.num.natAbs * a.den))
def mulFits (a b : Rat) : Prop := small (a.num.natAbs * b.num.natAbs) ∧ small (a.den * b.den)
instance (a b : Rat) : Decidable (addFits a b) := inferInstanceAs (Decidable (_ ∧ _ ∧ _ ∧ _))
instance (a b : Rat) : Decidable (mulFits a b) := inferInstanceAs (Decidable (_ ∧ _))
def Ret (v : Value) (w : World) (e : Ending) (w' : World) : Prop := e = .returned v ∧ Below w.heap.size w w'

theorem op1_q (a b : Rat) (ha : okQ a) (hb : okQ b) (h : addFits a b) (w : World) : Calls Tryz.prog 158 #[qV a, qV b] w fun e w' => e = .returned (qV (a + b)) ∧ Below w.heap.size w w' := by
  obtain ⟨h1, h2, h3, h4⟩ := h
  have e : a + b = mkQ (saddNeg (decide (a < 0)) (a.num.natAbs * b.den) (decide (b < 0)) (b.num.natAbs * a.den)) (saddN (decide (a < 0)) (a.num.natAbs * b.den) (decide (b < 0)) (b.num.natAbs * a.den)) (a.den * b.den) := by
    rw [← add_mkQ _ _ _ _ (den_pos a) (den_pos b), mkQ_self, mkQ_self]
  rw [e]
  exact ops1_ok _ _ _ _ _ _ _ _ _ _ _ _ _ _ (fun w => times_ok _ _ ha.2 hb.2 h1 w) (fun w => times_ok _ _ ha.1 hb.2 h2 w) (fun w => times_ok _ _ hb.1 ha.2 h3 w) (fun w => sadd_ok _ _ _ _ h2 h3 h4 w)
    (fun w => over_any _ _ _ (small_saddN h2 h3 h4) h1 (Nat.mul_pos (den_pos a) (den_pos b)) w) w

theorem op1_bad (a b : Rat) (ha : okQ a) (hb : okQ b) (h : ¬ addFits a b) (w : World) : Calls Tryz.prog 158 #[qV a, qV b] w fun e w' => e = .panicked (failv 2) ∧ Below w.heap.size w w' := by
  by_cases h1 : small (a.den * b.den)
  · have T1 : Hid (∀ w : World, Calls Tryz.prog 159 #[.string (nat a.den), .string (nat b.den)] w fun e w' => e = .returned (.string (nat (a.den * b.den))) ∧ Below w.heap.size w w') := fun w => times_ok _ _ ha.2 hb.2 h1 w
    by_cases h2 : small (a.num.natAbs * b.den)
    · have T2 : Hid (∀ w : World, Calls Tryz.prog 159 #[.string (nat a.num.natAbs), .string (nat b.den)] w fun e w' => e = .returned (.string (nat (a.num.natAbs * b.den))) ∧ Below w.heap.size w w') := fun w => times_ok _ _ ha.1 hb.2 h2 w
      by_cases h3 : small (b.num.natAbs * a.den)
      · have T3 : Hid (∀ w : World, Calls Tryz.prog 159 #[.string (nat b.num.natAbs), .string (nat a.den)] w fun e w' => e = .returned (.string (nat (b.num.natAbs * a.den))) ∧ Below w.heap.size w w') := fun w => times_ok _ _ hb.1 ha.2 h3 w
        by_cases h4 : decide (a < 0) = decide (b < 0)
        · have h5 : ¬ small (a.num.natAbs * b.den + b.num.natAbs * a.den) := fun h5 => h ⟨h1, h2, h3, fun _ => h5⟩
          unfold qV rV
          rw [← h4]
          exact ops1_s _ _ false false _ _ _ _ _ _ _ ByteArray.empty ByteArray.empty ByteArray.empty T1 T2 T3 (fun w => sadd_fail _ _ _ h2 h3 h5 w) w
        · exact absurd ⟨h1, h2, h3, fun h => absurd h h4⟩ h
      · exact ops1_y _ _ false false _ _ _ _ _ _ ByteArray.empty ByteArray.empty ByteArray.empty ByteArray.empty T1 T2 (fun w => times_fail _ _ hb.1 ha.2 h3 w) w
    · exact ops1_x _ _ false false _ _ _ _ _ ByteArray.empty ByteArray.empty ByteArray.empty ByteArray.empty ByteArray.empty T1 (fun w => times_fail _ _ ha.1 hb.2 h2 w) w
  · exact ops1_d _ _ false false _ _ _ _ ByteArray.empty ByteArray.empty ByteArray.empty ByteArray.empty ByteArray.empty ByteArray.empty (fun w => times_fail _ _ ha.2 hb.2 h1 w) w

/-- the second operation, with the fields of the second ratio as they lie -/
theorem op2_gen (s t : Bool) (n d m c : Nat) (hn : small n) (hd : small d) (hm : small m) (hc : small c) (hdp : 0 < d) (hcp : 0 < c) (h1 : small (n * m)) (h2 : small (d * c)) (w : World) :
    Calls Tryz.prog 161 #[rV s (nat n) (nat d), rV t (nat m) (nat c)] w fun e w' => e = .returned (qV (mkQ s n d * mkQ t m c)) ∧ Below w.heap.size w w' := by
  rw [mul_mkQ]
  exact ops2_ok _ _ _ _ _ _ _ _ _ _ _ (fun w => times_ok _ _ hn hm h1 w) (fun w => times_ok _ _ hd hc h2 w) (fun w => over_any _ _ _ h1 h2 (Nat.mul_pos hdp hcp) w) w
theorem op2_bad (s t : Bool) (n d m c : Nat) (hn : small n) (hd : small d) (hm : small m) (hc : small c) (h : ¬ (small (n * m) ∧ small (d * c))) (w : World) :
    Calls Tryz.prog 161 #[rV s (nat n) (nat d), rV t (nat m) (nat c)] w fun e w' => e = .panicked (failv 2) ∧ Below w.heap.size w w' := by
  by_cases h1 : small (n * m)
  · have h2 : ¬ small (d * c) := fun h2 => h ⟨h1, h2⟩
    exact ops2_d _ _ false _ _ _ _ ByteArray.empty _ ByteArray.empty ByteArray.empty (fun w => times_ok _ _ hn hm h1 w) (fun w => times_fail _ _ hd hc h2 w) w
  · exact ops2_x _ _ false _ _ _ _ ByteArray.empty ByteArray.empty ByteArray.empty ByteArray.empty (fun w => times_fail _ _ hn hm h1 w) w


theorem op3_t (b : Rat) : decide (b < 0) = false → ((nat b.num.natAbs).toList.isEmpty = true ∧ (nat b.num.natAbs).toList = [] ∧ decide (-b < 0) = false) ∨ ((nat b.num.natAbs).toList.isEmpty = false ∧ ¬ (nat b.num.natAbs).toList = [] ∧ decide (-b < 0) = true) := fun h => by
  have h1 : ¬ b.num < 0 := fun h2 => by simp [lt_zero_iff, h2] at h
  by_cases h0 : b.num.natAbs = 0
  · refine .inl ⟨(nat_empty h0).1, (nat_empty h0).2, ?_⟩
    rw [decide_eq_false_iff_not, lt_zero_iff, Rat.num_neg]; omega
  · refine .inr ⟨(nat_nonempty h0).1, (nat_nonempty h0).2, ?_⟩
    rw [decide_eq_true_eq, lt_zero_iff, Rat.num_neg]; omega
theorem op3_f (b : Rat) : decide (b < 0) = true → decide (-b < 0) = false := fun h => by
  rw [decide_eq_true_eq, lt_zero_iff] at h
  rw [decide_eq_false_iff_not, lt_zero_iff, Rat.num_neg]; omega
theorem qV_neg (b : Rat) : qV (-b) = rV (decide (-b < 0)) (nat b.num.natAbs) (nat b.den) := by
  unfold qV; rw [Rat.num_neg, Rat.den_neg, Int.natAbs_neg]
theorem okQ_neg {b : Rat} (h : okQ b) : okQ (-b) := by
  unfold okQ; rw [Rat.num_neg, Rat.den_neg, Int.natAbs_neg]; exact h

theorem op3_q (a b : Rat) (ha : okQ a) (hb : okQ b) (h : addFits a (-b)) (w : World) (g : Nat) (hg : Blk w g 207 #[.func (.func 158) #[] #[]]) :
    Calls Tryz.prog 162 #[qV a, qV b, .pointer (some ⟨g, 0, none⟩)] w fun e w' => e = .returned (qV (a - b)) ∧ Below w.heap.size w w' := by
  rw [Rat.sub_eq_add_neg]
  exact ops3_ok _ _ _ _ _ _ _ _ _ _ (op3_t b) (op3_f b) (fun w => by have := op1_q a (-b) ha (okQ_neg hb) h w; rw [qV_neg] at this; exact this) w hg
theorem op3_bad (a b : Rat) (ha : okQ a) (hb : okQ b) (h : ¬ addFits a (-b)) (w : World) (g : Nat) (hg : Blk w g 207 #[.func (.func 158) #[] #[]]) :
    Calls Tryz.prog 162 #[qV a, qV b, .pointer (some ⟨g, 0, none⟩)] w fun e w' => e = .panicked (failv 2) ∧ Below w.heap.size w w' :=
  ops3_bad _ _ false _ _ _ _ ByteArray.empty ByteArray.empty _ (op3_t b) (op3_f b) (fun w => by have := op1_bad a (-b) ha (okQ_neg hb) h w; rw [qV_neg] at this; exact this) w hg

theorem mkQ_inv (b : Rat) (h : b ≠ 0) : mkQ (decide (b < 0)) b.den b.num.natAbs = b⁻¹ := by
  have hb0 : b.num ≠ 0 := fun h2 => h (Rat.num_eq_zero.1 h2)
  unfold mkQ sgn
  rw [Rat.inv_def, ← Rat.divInt_ofNat, Rat.divInt_eq_divInt_iff (by omega) hb0]
  by_cases hb : b.num < 0
  · rw [decide_eq_true ((lt_zero_iff b).2 hb), if_pos rfl]
    have : ((b.num.natAbs : Nat) : Int) = -b.num := by omega
    rw [this, Int.neg_mul, Int.mul_neg]
  · rw [decide_eq_false (fun h2 => hb ((lt_zero_iff b).1 h2)), if_neg (by simp)]
    have : ((b.num.natAbs : Nat) : Int) = b.num := by omega
    rw [this]

/-- whether the product of a and the inverse of b fits -/
def divFits (a b : Rat) : Prop := small (a.num.natAbs * b.den) ∧ small (a.den * b.num.natAbs)
instance (a b : Rat) : Decidable (divFits a b) := inferInstanceAs (Decidable (_ ∧ _))
theorem op4_q (a b : Rat) (ha : okQ a) (hb : okQ b) (h0 : b ≠ 0) (h : divFits a b) (w : World) (g : Nat) (hg : Blk w g 207 #[.func (.func 161) #[] #[]]) :
    Calls Tryz.prog 163 #[qV a, qV b, .pointer (some ⟨g, 0, none⟩)] w fun e w' => e = .returned (qV (a / b)) ∧ Below w.heap.size w w' := by
  have hn : b.num.natAbs ≠ 0 := fun h2 => h0 (Rat.num_eq_zero.1 (by omega))
  refine ops4_ok _ _ _ _ _ _ _ _ _ _ (nat_nonempty hn).1 (nat_nonempty hn).2 (fun w => ?_) w hg
  have := op2_gen (decide (a < 0)) (decide (b < 0)) a.num.natAbs a.den b.den b.num.natAbs ha.1 ha.2 hb.2 hb.1 (den_pos a) (by omega) h.1 h.2 w
  rw [mkQ_self, mkQ_inv b h0, ← Rat.div_def] at this
  exact this
theorem op4_bad (a b : Rat) (ha : okQ a) (hb : okQ b) (h0 : b ≠ 0) (h : ¬ divFits a b) (w : World) (g : Nat) (hg : Blk w g 207 #[.func (.func 161) #[] #[]]) :
    Calls Tryz.prog 163 #[qV a, qV b, .pointer (some ⟨g, 0, none⟩)] w fun e w' => e = .panicked (failv 2) ∧ Below w.heap.size w w' := by
  have hn : b.num.natAbs ≠ 0 := fun h2 => h0 (Rat.num_eq_zero.1 (by omega))
  exact ops4_bad _ _ false _ _ _ _ ByteArray.empty ByteArray.empty _ (nat_nonempty hn).1 (nat_nonempty hn).2 (fun w => op2_bad _ _ _ _ _ _ ha.1 ha.2 hb.2 hb.1 h w) w hg
theorem op4_zero (a : Rat) (w : World) (p : Value) : Calls Tryz.prog 163 #[qV a, qV 0, p] w fun e w' => e = .panicked (failv 71) ∧ Below w.heap.size w w' :=
  ops4_zero _ _ _ _ _ _ p (nat_empty rfl).1 (nat_empty rfl).2 w

/-- the letters of a ratio, valid or not -/
structure RV where
  neg : Bool
  n : ByteArray
  d : ByteArray
deriving DecidableEq
def RV.v (r : RV) : Value := rV r.neg r.n r.d
def RV.ok (r : RV) : Bool := ratOk r.neg r.n r.d
def RV.q (r : RV) : Rat := mkQ r.neg (val r.n) (val r.d)
def RV.fits (r : RV) : Prop := r.n.size ≤ maxLen ∧ r.d.size ≤ maxLen
def RV.zero : RV := ⟨false, { data := #[] }, { data := #[] }⟩
def ofQ (q : Rat) : RV := ⟨decide (q < 0), nat q.num.natAbs, nat q.den⟩
theorem ofQ_v (q : Rat) : (ofQ q).v = qV q := rfl
theorem ofQ_q (q : Rat) : (ofQ q).q = q := by
  unfold ofQ RV.q; rw [val_nat, val_nat]; exact mkQ_self q
theorem RV.ok_is {r : RV} (h : r.ok = true) : r = ofQ r.q ∧ okQ r.q := by
  obtain ⟨q, h1, h2, h3, h4, h5⟩ := ratOk_is _ _ _ h
  have e : r = ofQ q := by
    cases r; simp only at h1 h2 h3; subst h1; subst h2; subst h3; rfl
  have e2 : r.q = q := by rw [e, ofQ_q]
  rw [e2]
  exact ⟨e, h4, h5⟩
theorem ofQ_ok {q : Rat} (h : okQ q) : (ofQ q).ok = true := ratOk_q q h.1 h.2

def addR (a b : RV) : RV × Int := if (a.ok && b.ok) = true then (if addFits a.q b.q then (ofQ (a.q + b.q), 0) else (RV.zero, 2)) else (RV.zero, 70)
def subR (a b : RV) : RV × Int := if (a.ok && b.ok) = true then (if addFits a.q (-b.q) then (ofQ (a.q - b.q), 0) else (RV.zero, 2)) else (RV.zero, 70)
def mulR (a b : RV) : RV × Int := if (a.ok && b.ok) = true then (if mulFits a.q b.q then (ofQ (a.q * b.q), 0) else (RV.zero, 2)) else (RV.zero, 70)
def divR (a b : RV) : RV × Int := if (a.ok && b.ok) = true then (if b.q = 0 then (RV.zero, 71) else if divFits a.q b.q then (ofQ (a.q / b.q), 0) else (RV.zero, 2)) else (RV.zero, 70)
def CalcR (w : World) (r : RV × Int) (e : Ending) (w' : World) : Prop := e = .returned (.tuple #[r.1.v, .int .i64 r.2]) ∧ Below w.heap.size w w'

theorem calc_add (a b : RV) (ha : a.fits) (hb : b.fits) (w : World) : Calls Tryz.prog 99 #[.string ⟨#[43]⟩, a.v, b.v] w (CalcR w (addR a b)) := by
  unfold addR
  cases hok : a.ok && b.ok with
  | false => rw [if_neg (by simp)]; exact calc_bad _ _ _ _ _ _ _ ha.1 ha.2 hb.1 hb.2 hok w
  | true =>
    obtain ⟨h1, h2⟩ := Bool.and_eq_true_iff.1 hok
    obtain ⟨ea, oa⟩ := RV.ok_is h1
    obtain ⟨eb, ob⟩ := RV.ok_is h2
    rw [if_pos rfl]
    split
    · rename_i hf
      exact calc1_ok _ _ _ _ _ _ _ _ _ ha.1 ha.2 hb.1 hb.2 hok (fun w => by have := op1_q a.q b.q oa ob hf w; rw [← ofQ_v, ← ofQ_v, ← ea, ← eb] at this; exact this) w
    · rename_i hf
      exact calc1_bad _ _ _ _ _ _ _ (by decide) ha.1 ha.2 hb.1 hb.2 hok (fun w => by have := op1_bad a.q b.q oa ob hf w; rw [← ofQ_v, ← ofQ_v, ← ea, ← eb] at this; exact this) w

theorem calc_mul (a b : RV) (ha : a.fits) (hb : b.fits) (w : World) : Calls Tryz.prog 99 #[.string ⟨#[42]⟩, a.v, b.v] w (CalcR w (mulR a b)) := by
  unfold mulR
  cases hok : a.ok && b.ok with
  | false => rw [if_neg (by simp)]; exact calc_bad _ _ _ _ _ _ _ ha.1 ha.2 hb.1 hb.2 hok w
  | true =>
    obtain ⟨h1, h2⟩ := Bool.and_eq_true_iff.1 hok
    obtain ⟨ea, oa⟩ := RV.ok_is h1
    obtain ⟨eb, ob⟩ := RV.ok_is h2
    rw [if_pos rfl]
    split
    · rename_i hf
      exact calc2_ok _ _ _ _ _ _ _ _ _ ha.1 ha.2 hb.1 hb.2 hok (fun w => by
        have := op2_gen (decide (a.q < 0)) (decide (b.q < 0)) a.q.num.natAbs a.q.den b.q.num.natAbs b.q.den oa.1 oa.2 ob.1 ob.2 (den_pos _) (den_pos _) hf.1 hf.2 w
        rw [mkQ_self, mkQ_self] at this
        change Calls Tryz.prog _ #[(ofQ a.q).v, (ofQ b.q).v] w _ at this
        rw [← ea, ← eb] at this; exact this) w
    · rename_i hf
      exact calc2_bad _ _ _ _ _ _ _ (by decide) ha.1 ha.2 hb.1 hb.2 hok (fun w => by
        have := op2_bad (decide (a.q < 0)) (decide (b.q < 0)) a.q.num.natAbs a.q.den b.q.num.natAbs b.q.den oa.1 oa.2 ob.1 ob.2 hf w
        change Calls Tryz.prog _ #[(ofQ a.q).v, (ofQ b.q).v] w _ at this
        rw [← ea, ← eb] at this; exact this) w

theorem calc_sub (a b : RV) (ha : a.fits) (hb : b.fits) (w : World) : Calls Tryz.prog 99 #[.string ⟨#[45]⟩, a.v, b.v] w (CalcR w (subR a b)) := by
  unfold subR
  cases hok : a.ok && b.ok with
  | false => rw [if_neg (by simp)]; exact calc_bad _ _ _ _ _ _ _ ha.1 ha.2 hb.1 hb.2 hok w
  | true =>
    obtain ⟨h1, h2⟩ := Bool.and_eq_true_iff.1 hok
    obtain ⟨ea, oa⟩ := RV.ok_is h1
    obtain ⟨eb, ob⟩ := RV.ok_is h2
    rw [if_pos rfl]
    split
    · rename_i hf
      exact calc3_ok _ _ _ _ _ _ _ _ _ ha.1 ha.2 hb.1 hb.2 hok (fun w g hg => by have := op3_q a.q b.q oa ob hf w g hg; rw [← ofQ_v, ← ofQ_v, ← ea, ← eb] at this; exact this) w
    · rename_i hf
      exact calc3_bad _ _ _ _ _ _ _ (by decide) ha.1 ha.2 hb.1 hb.2 hok (fun w g hg => by have := op3_bad a.q b.q oa ob hf w g hg; rw [← ofQ_v, ← ofQ_v, ← ea, ← eb] at this; exact this) w

theorem calc_div (a b : RV) (ha : a.fits) (hb : b.fits) (w : World) : Calls Tryz.prog 99 #[.string ⟨#[47]⟩, a.v, b.v] w (CalcR w (divR a b)) := by
  unfold divR
  cases hok : a.ok && b.ok with
  | false => rw [if_neg (by simp)]; exact calc_bad _ _ _ _ _ _ _ ha.1 ha.2 hb.1 hb.2 hok w
  | true =>
    obtain ⟨h1, h2⟩ := Bool.and_eq_true_iff.1 hok
    obtain ⟨ea, oa⟩ := RV.ok_is h1
    obtain ⟨eb, ob⟩ := RV.ok_is h2
    rw [if_pos rfl]
    split
    · rename_i h0
      exact calc4_bad _ _ _ _ _ _ _ (by decide) ha.1 ha.2 hb.1 hb.2 hok (fun w g hg => by have := op4_zero a.q w (.pointer (some ⟨g, 0, none⟩)); rw [← h0, ← ofQ_v, ← ofQ_v, ← ea, ← eb] at this; exact this) w
    rename_i h0
    split
    · rename_i hf
      exact calc4_ok _ _ _ _ _ _ _ _ _ ha.1 ha.2 hb.1 hb.2 hok (fun w g hg => by have := op4_q a.q b.q oa ob h0 hf w g hg; rw [← ofQ_v, ← ofQ_v, ← ea, ← eb] at this; exact this) w
    · rename_i hf
      exact calc4_bad _ _ _ _ _ _ _ (by decide) ha.1 ha.2 hb.1 hb.2 hok (fun w g hg => by have := op4_bad a.q b.q oa ob h0 hf w g hg; rw [← ofQ_v, ← ofQ_v, ← ea, ← eb] at this; exact this) w
end Go.Proofs.YteggbpaljmopoaaGreat
/- ratios.Add, Sub, Mul, Div. -/
namespace Go.Proofs.YteggbpaljmopoaaGreat
open Go.RowKit BF

set_option maxRecDepth 100000 in
set_option maxHeartbeats 1000000 in
theorem RAdd_any (a b : RV) (ha : a.fits) (hb : b.fits) (w : World) : Calls Tryz.prog 279 #[a.v, b.v] w (CalcR w (addR a b)) := by
  have HC := Lib.hid (fun w => calc_add a b ha hb w)
  clear ha hb
  generalize addR a b = R at *
  obtain ⟨⟨rb, rn, rd⟩, k⟩ := R
  obtain ⟨s, n, d⟩ := a
  obtain ⟨t, m, c⟩ := b
  unfold CalcR RV.v rV at *
  dsimp only at *
  obtain ⟨W0, hW, HA, HB, HR, HW⟩ := ratio_boxes w s t n d m c
  obtain ⟨x0, x1, x2, x3, x4, x5⟩ := six HA.out HB.out
  go_enter Tryz.func279, Tryz.ntmps279
  go_wp2_with (fail)
  refine (HC.out _).mono ?_
  rintro e w1 ⟨rfl, hb⟩
  have HR1 := Lib.hid (HR.out.under hb)
  have HW1 := Lib.hid (HW.out.trans (hb.mono HW.out.size))
  clear hb
  have r0 := HR1.out.cell (i := 0) rfl
  have r1 := HR1.out.cell (i := 1) rfl
  have r2 := HR1.out.cell (i := 2) rfl
  have fr := HR1.out.frozen
  go_wp2
  have HF := ((HR1.out.set (i := 0) (.bool rb)).set (i := 1) (.string rn)).set (i := 2) (.string rd)
  have e0 := HF.cell (i := 0) rfl
  have e1 := HF.cell (i := 1) rfl
  have e2 := HF.cell (i := 2) rfl

  refine bodyPost_ret (v := .tuple #[.agg #[.bool rb, .string rn, .string rd], .int .i64 k]) ?_ rfl ⟨rfl, ((HW1.out.setCell (by simp; omega) _).setCell (by simp; omega) _).setCell (by simp; omega) _⟩
  simp [results, Tryz.results279, go_sem, e0, e1, e2]

set_option maxRecDepth 100000 in
set_option maxHeartbeats 1000000 in
theorem RSub_any (a b : RV) (ha : a.fits) (hb : b.fits) (w : World) : Calls Tryz.prog 245 #[a.v, b.v] w (CalcR w (subR a b)) := by
  have HC := Lib.hid (fun w => calc_sub a b ha hb w)
  clear ha hb
  generalize subR a b = R at *
  obtain ⟨⟨rb, rn, rd⟩, k⟩ := R
  obtain ⟨s, n, d⟩ := a
  obtain ⟨t, m, c⟩ := b
  unfold CalcR RV.v rV at *
  dsimp only at *
  obtain ⟨W0, hW, HA, HB, HR, HW⟩ := ratio_boxes w s t n d m c
  obtain ⟨x0, x1, x2, x3, x4, x5⟩ := six HA.out HB.out
  go_enter Tryz.func245, Tryz.ntmps245
  go_wp2_with (fail)
  refine (HC.out _).mono ?_
  rintro e w1 ⟨rfl, hb⟩
  have HR1 := Lib.hid (HR.out.under hb)
  have HW1 := Lib.hid (HW.out.trans (hb.mono HW.out.size))
  clear hb
  have r0 := HR1.out.cell (i := 0) rfl
  have r1 := HR1.out.cell (i := 1) rfl
  have r2 := HR1.out.cell (i := 2) rfl
  have fr := HR1.out.frozen
  go_wp2
  have HF := ((HR1.out.set (i := 0) (.bool rb)).set (i := 1) (.string rn)).set (i := 2) (.string rd)
  have e0 := HF.cell (i := 0) rfl
  have e1 := HF.cell (i := 1) rfl
  have e2 := HF.cell (i := 2) rfl

  refine bodyPost_ret (v := .tuple #[.agg #[.bool rb, .string rn, .string rd], .int .i64 k]) ?_ rfl ⟨rfl, ((HW1.out.setCell (by simp; omega) _).setCell (by simp; omega) _).setCell (by simp; omega) _⟩
  simp [results, Tryz.results245, go_sem, e0, e1, e2]

set_option maxRecDepth 100000 in
set_option maxHeartbeats 1000000 in
theorem RMul_any (a b : RV) (ha : a.fits) (hb : b.fits) (w : World) : Calls Tryz.prog 66 #[a.v, b.v] w (CalcR w (mulR a b)) := by
  have HC := Lib.hid (fun w => calc_mul a b ha hb w)
  clear ha hb
  generalize mulR a b = R at *
  obtain ⟨⟨rb, rn, rd⟩, k⟩ := R
  obtain ⟨s, n, d⟩ := a
  obtain ⟨t, m, c⟩ := b
  unfold CalcR RV.v rV at *
  dsimp only at *
  obtain ⟨W0, hW, HA, HB, HR, HW⟩ := ratio_boxes w s t n d m c
  obtain ⟨x0, x1, x2, x3, x4, x5⟩ := six HA.out HB.out
  go_enter Tryz.func66, Tryz.ntmps66
  go_wp2_with (fail)
  refine (HC.out _).mono ?_
  rintro e w1 ⟨rfl, hb⟩
  have HR1 := Lib.hid (HR.out.under hb)
  have HW1 := Lib.hid (HW.out.trans (hb.mono HW.out.size))
  clear hb
  have r0 := HR1.out.cell (i := 0) rfl
  have r1 := HR1.out.cell (i := 1) rfl
  have r2 := HR1.out.cell (i := 2) rfl
  have fr := HR1.out.frozen
  go_wp2
  have HF := ((HR1.out.set (i := 0) (.bool rb)).set (i := 1) (.string rn)).set (i := 2) (.string rd)
  have e0 := HF.cell (i := 0) rfl
  have e1 := HF.cell (i := 1) rfl
  have e2 := HF.cell (i := 2) rfl

  refine bodyPost_ret (v := .tuple #[.agg #[.bool rb, .string rn, .string rd], .int .i64 k]) ?_ rfl ⟨rfl, ((HW1.out.setCell (by simp; omega) _).setCell (by simp; omega) _).setCell (by simp; omega) _⟩
  simp [results, Tryz.results66, go_sem, e0, e1, e2]

set_option maxRecDepth 100000 in
set_option maxHeartbeats 1000000 in
theorem RDiv_any (a b : RV) (ha : a.fits) (hb : b.fits) (w : World) : Calls Tryz.prog 65 #[a.v, b.v] w (CalcR w (divR a b)) := by
  have HC := Lib.hid (fun w => calc_div a b ha hb w)
  clear ha hb
  generalize divR a b = R at *
  obtain ⟨⟨rb, rn, rd⟩, k⟩ := R
  obtain ⟨s, n, d⟩ := a
  obtain ⟨t, m, c⟩ := b
  unfold CalcR RV.v rV at *
  dsimp only at *
  obtain ⟨W0, hW, HA, HB, HR, HW⟩ := ratio_boxes w s t n d m c
  obtain ⟨x0, x1, x2, x3, x4, x5⟩ := six HA.out HB.out
  go_enter Tryz.func65, Tryz.ntmps65
  go_wp2_with (fail)
  refine (HC.out _).mono ?_
  rintro e w1 ⟨rfl, hb⟩
  have HR1 := Lib.hid (HR.out.under hb)
  have HW1 := Lib.hid (HW.out.trans (hb.mono HW.out.size))
  clear hb
  have r0 := HR1.out.cell (i := 0) rfl
  have r1 := HR1.out.cell (i := 1) rfl
  have r2 := HR1.out.cell (i := 2) rfl
  have fr := HR1.out.frozen
  go_wp2
  have HF := ((HR1.out.set (i := 0) (.bool rb)).set (i := 1) (.string rn)).set (i := 2) (.string rd)
  have e0 := HF.cell (i := 0) rfl
  have e1 := HF.cell (i := 1) rfl
  have e2 := HF.cell (i := 2) rfl

  refine bodyPost_ret (v := .tuple #[.agg #[.bool rb, .string rn, .string rd], .int .i64 k]) ?_ rfl ⟨rfl, ((HW1.out.setCell (by simp; omega) _).setCell (by simp; omega) _).setCell (by simp; omega) _⟩
  simp [results, Tryz.results65, go_sem, e0, e1, e2]
end Go.Proofs.YteggbpaljmopoaaGreat
/- ratios.Floor, Ceil. -/
namespace Go.Proofs.YteggbpaljmopoaaGreat
open Go.RowKit BF

def floorW (neg ok rem : Bool) (v : Int) : Int × Int :=
  if ok = true ∧ v ≤ 4611686018427387904 then (if neg then (if rem then (if v + 1 ≤ 4611686018427387904 then (-(v + 1), 0) else (0, 2)) else (-v, 0)) else (v, 0)) else (0, 2)

set_option maxRecDepth 100000 in
set_option maxHeartbeats 1000000 in
theorem floor_gen (s ok rem : Bool) (n d q r : ByteArray) (v : Int) (hv0 : 0 ≤ v) (hv1 : v ≤ 9223372036854775807) (hr : rem = false → r.toList.isEmpty = true ∧ r.toList = []) (hr' : rem = true → r.toList.isEmpty = false ∧ ¬ r.toList = [])
    (TC : Hid (∀ w : World, Calls Tryz.prog 16 #[.agg #[.bool s, .string n, .string d]] w fun e w' => e = .returned (.int .i64 0) ∧ Below w.heap.size w w'))
    (TD : Hid (∀ w : World, Calls Tryz.prog 64 #[.string n, .string d] w fun e w' => e = .returned (.tuple #[.string q, .string r, .int .i64 0]) ∧ Below w.heap.size w w'))
    (TI : Hid (∀ w : World, Calls Tryz.prog 142 #[.string q] w fun e w' => e = .returned (.tuple #[.int .i64 v, .bool ok]) ∧ w = w')) (w : World) :
    Calls Tryz.prog 100 #[.agg #[.bool s, .string n, .string d]] w fun e w' => e = .returned (.tuple #[.int .i64 (floorW s ok rem v).1, .int .i64 (floorW s ok rem v).2]) ∧ Below w.heap.size w w' := by
  have HA : Hid (Blk (w.alloc (.cells #[.bool s, .string n, .string d] 25)) w.heap.size 25 #[.bool s, .string n, .string d]) := Blk.new w _ _
  have HW : Hid (Below w.heap.size w (w.alloc (.cells #[.bool s, .string n, .string d] 25))) := (Below.refl _ w).alloc (Nat.le_refl _) _
  go_enter Tryz.func100, Tryz.ntmps100
  go_wp2_with (fail)
  refine (TC.out _).mono ?_
  rintro e w1 ⟨rfl, hb⟩
  have HA1 := Lib.hid (HA.out.under hb)
  have HW1 := Lib.hid (HW.out.trans (hb.mono HW.out.size))
  clear hb
  have c0 := HA1.out.cell (i := 0) rfl
  have c1 := HA1.out.cell (i := 1) rfl
  have c2 := HA1.out.cell (i := 2) rfl
  go_wp2_with (fail)
  refine (TD.out _).mono ?_
  rintro e w2 ⟨rfl, hb⟩
  have HA2 := Lib.hid (HA1.out.under hb)
  have HW2 := Lib.hid (HW1.out.trans (hb.mono HW1.out.size))
  clear hb c0 c1 c2
  have c0 := HA2.out.cell (i := 0) rfl
  go_wp2_with (fail)
  refine (TI.out _).mono ?_
  rintro e w3 ⟨rfl, hb⟩
  subst hb
  dsimp only
  cases ok with
  | false =>
    go_wp2
    go_ret2
    exact ⟨by first | rfl | (rw [hf]; done) | (rw [hf]; rfl), HW2.out⟩
  | true =>
    by_cases hv : v > 4611686018427387904
    · have hf : floorW s true rem v = (0, 2) := if_neg (fun h => by omega)
      go_wp2
      go_ret2
      exact ⟨by first | rfl | (rw [hf]; done) | (rw [hf]; rfl), HW2.out⟩
    · cases s with
      | false =>
        have hf : floorW false true rem v = (v, 0) := by unfold floorW; rw [if_pos ⟨rfl, by omega⟩]; rfl
        go_wp2
        go_ret2
        exact ⟨by first | rfl | (rw [hf]; done) | (rw [hf]; rfl), HW2.out⟩
      | true =>
        cases rem with
        | false =>
          have hf : floorW true true false v = (-v, 0) := by unfold floorW; rw [if_pos ⟨rfl, by omega⟩]; rfl
          obtain ⟨r0, r1⟩ := hr rfl
          go_wp2
          go_ret2
          exact ⟨by first | rfl | (rw [hf]; done) | (rw [hf]; rfl), HW2.out⟩
        | true =>
          obtain ⟨r0, r1⟩ := hr' rfl
          by_cases hv2 : v + 1 > 4611686018427387904
          · have hf : floorW true true true v = (0, 2) := by unfold floorW; rw [if_pos ⟨rfl, by omega⟩, if_pos rfl, if_pos rfl, if_neg (by omega)]
            go_wp2
            go_ret2
            exact ⟨by first | rfl | (rw [hf]; done) | (rw [hf]; rfl), HW2.out⟩
          · have hf : floorW true true true v = (-(v + 1), 0) := by unfold floorW; rw [if_pos ⟨rfl, by omega⟩, if_pos rfl, if_pos rfl, if_pos (by omega)]
            go_wp2
            go_ret2
            exact ⟨by first | rfl | (rw [hf]; done) | (rw [hf]; rfl), HW2.out⟩

theorem neg_ediv_nat (a d : Nat) (hd : 0 < d) : (-(a:Int)) / (d:Int) = -((a/d : Nat) : Int) - (if a % d = 0 then 0 else 1) := by
  have h1 := Nat.div_add_mod a d
  have h2 := Nat.mod_lt a hd
  generalize a / d = q at *
  generalize a % d = r at *
  subst h1
  split
  · rename_i h; subst h
    simp
    rw [← Int.mul_neg, Int.mul_ediv_cancel_left _ (by omega)]
  · rename_i h
    rw [show (-((d * q + r : Nat) : Int)) = ((d:Int) - r) + (d:Int) * (-(q:Int) - 1) by rw [Int.mul_sub, Int.mul_neg]; simp; omega]
    rw [Int.add_mul_ediv_left _ _ (by omega), Int.ediv_eq_zero_of_lt (by omega) (by omega)]
    omega
theorem floor_is (q : Rat) : q.floor = if decide (q < 0) then -(((q.num.natAbs / q.den : Nat) : Int) + (if q.num.natAbs % q.den = 0 then 0 else 1)) else ((q.num.natAbs / q.den : Nat) : Int) := by
  rw [Rat.floor_def]
  by_cases h : q < 0
  · rw [if_pos (by simpa using h)]
    have h1 := (lt_zero_iff q).1 h
    have h2 : q.num = -((q.num.natAbs : Nat) : Int) := by omega
    rw [h2, neg_ediv_nat _ _ (den_pos q), Int.natAbs_neg, Int.natAbs_natCast]; omega
  · rw [if_neg (by simpa using h)]
    have h1 : ¬ q.num < 0 := fun h2 => h ((lt_zero_iff q).2 h2)
    have h2 : q.num = ((q.num.natAbs : Nat) : Int) := by omega
    rw [h2, ← Int.natCast_ediv, Int.natAbs_natCast]
def within (n : Int) : Int × Int := if n.natAbs ≤ 4611686018427387904 then (n, 0) else (0, 2)
def floorR (r : RV) : Int × Int := if r.ok = true then within r.q.floor else (0, 70)
def ceilQ (q : Rat) : Int := -((-q).floor)
def ceilR (r : RV) : Int × Int := if r.ok = true then within (ceilQ r.q) else (0, 70)

theorem int_nat (v : Nat) : intOk (nat v) = decide (v ≤ 9223372036854775807) ∧ intV (nat v) = if v ≤ 9223372036854775807 then (v : Int) else 0 := by
  have h : intOk (nat v) = decide (v ≤ 9223372036854775807) := by
    unfold intOk
    rw [val_nat]
    by_cases hv : v ≤ 9223372036854775807
    · have h1 : natB (nat v) = true := natB_enc v
      have h2 : (nat v).size ≤ 8 := by rw [nat_size, enc_length_le_iff]; omega
      simp [h1, h2, hv]
    · simp [hv]
  refine ⟨h, ?_⟩
  unfold intV
  rw [h, val_nat]
  simp

theorem floorW_is (q : Rat) : floorW (decide (q < 0)) (intOk (nat (q.num.natAbs / q.den))) (decide (q.num.natAbs % q.den ≠ 0)) (intV (nat (q.num.natAbs / q.den))) = within q.floor := by
  rw [(int_nat _).1, (int_nat _).2, floor_is]
  generalize q.num.natAbs / q.den = v
  generalize q.num.natAbs % q.den = r
  generalize decide (q < 0) = s
  unfold floorW within
  by_cases hv : v ≤ 9223372036854775807
  · simp only [hv, decide_true, if_true, true_and]
    cases s with
    | false => simp only [Bool.false_eq_true, if_false]; split <;> split <;> first | rfl | omega
    | true =>
      by_cases hr : r = 0
      · simp only [hr, if_true]; simp; split <;> split <;> first | rfl | omega
      · simp only [hr, if_false]; simp [hr]; split <;> split <;> (try split) <;> first | rfl | omega
  · simp only [hv, decide_false, Bool.false_eq_true, false_and, if_false]
    rw [if_neg]
    split <;> (try split) <;> omega

theorem Floor_any (r : RV) (hr : r.fits) (w : World) : Calls Tryz.prog 100 #[r.v] w fun e w' => e = .returned (.tuple #[.int .i64 (floorR r).1, .int .i64 (floorR r).2]) ∧ Below w.heap.size w w' := by
  unfold floorR
  cases hok : r.ok with
  | false =>
    rw [if_neg (by simp)]
    have TC : Hid (∀ w : World, Calls Tryz.prog 16 #[.agg #[.bool r.neg, .string r.n, .string r.d]] w fun e w' => e = .returned (.int .i64 70) ∧ Below w.heap.size w w') := fun w => by
      have := RCheck_any r.neg r.n r.d hr.1 hr.2 w
      rwa [show chkV r.neg r.n r.d = 70 from if_neg (by unfold RV.ok at hok; simp [hok])] at this
    clear hok hr
    obtain ⟨s, n, d⟩ := r
    unfold RV.v rV
    dsimp only at *
    have HW : Hid (Below w.heap.size w (w.alloc (.cells #[.bool s, .string n, .string d] 25))) := (Below.refl _ w).alloc (Nat.le_refl _) _
    have HA : Hid (Blk (w.alloc (.cells #[.bool s, .string n, .string d] 25)) w.heap.size 25 #[.bool s, .string n, .string d]) := Blk.new w _ _
    have c0 := HA.out.cell (i := 0) rfl
    have c1 := HA.out.cell (i := 1) rfl
    have c2 := HA.out.cell (i := 2) rfl
    go_enter Tryz.func100, Tryz.ntmps100
    go_wp2_with (fail)
    refine (TC.out _).mono ?_
    rintro e w1 ⟨rfl, hb⟩
    have HW1 := Lib.hid (HW.out.trans (hb.mono HW.out.size))
    clear hb
    go_wp2
    go_ret2
    exact ⟨rfl, HW1.out⟩
  | true =>
    rw [if_pos rfl]
    obtain ⟨e, o1, o2⟩ := RV.ok_is hok
    rw [← floorW_is, e, ofQ_q]
    generalize r.q = q at *
    have h0 := den_pos q
    obtain ⟨d1, d2, d3⟩ := divS_nat o1 o2 h0
    refine floor_gen _ _ _ _ _ _ (nat (q.num.natAbs % q.den)) _ ?_ ?_ (fun h => ?_) (fun h => ?_) (fun w => ?_) (fun w => ?_) (fun w => Int_any _ w ?_) w
    · rw [(int_nat _).2]; generalize q.num.natAbs / q.den = z; split <;> omega
    · rw [(int_nat _).2]; generalize q.num.natAbs / q.den = z; split <;> omega
    · exact nat_empty (by simpa using h)
    · exact nat_nonempty (by simpa using h)
    · have := RCheck_any (decide (q < 0)) (nat q.num.natAbs) (nat q.den) (nat_le o1) (nat_le o2) w
      rwa [show chkV _ _ _ = 0 from if_pos (ratOk_q q o1 o2)] at this
    · have := Div_any (nat q.num.natAbs) (nat q.den) w (nat_le o1) (nat_le o2)
      rwa [d1, d2, d3] at this
    · exact nat_le (small_div o1 _)
end Go.Proofs.YteggbpaljmopoaaGreat
/- ratios.Ceil. -/
namespace Go.Proofs.YteggbpaljmopoaaGreat
open Go.RowKit BF

set_option maxRecDepth 100000 in
set_option maxHeartbeats 1000000 in
theorem ceil_gen (s : Bool) (n d : ByteArray) (v k nv : Int) (hnv : IntKind.i64.wrap (-v) = nv) (b : Bool) (hb : s = false → (n.toList.isEmpty = true ∧ n.toList = [] ∧ b = false) ∨ (n.toList.isEmpty = false ∧ ¬ n.toList = [] ∧ b = true)) (hb' : s = true → b = false)
    (TC : Hid (∀ w : World, Calls Tryz.prog 16 #[.agg #[.bool s, .string n, .string d]] w fun e w' => e = .returned (.int .i64 0) ∧ Below w.heap.size w w'))
    (TF : Hid (∀ w : World, Calls Tryz.prog 100 #[.agg #[.bool b, .string n, .string d]] w fun e w' => e = .returned (.tuple #[.int .i64 v, .int .i64 k]) ∧ Below w.heap.size w w')) (w : World) :
    Calls Tryz.prog 67 #[.agg #[.bool s, .string n, .string d]] w fun e w' => e = .returned (.tuple #[.int .i64 nv, .int .i64 k]) ∧ Below w.heap.size w w' := by
  have HA : Hid (Blk (w.alloc (.cells #[.bool s, .string n, .string d] 25)) w.heap.size 25 #[.bool s, .string n, .string d]) := Blk.new w _ _
  have HW : Hid (Below w.heap.size w (w.alloc (.cells #[.bool s, .string n, .string d] 25))) := (Below.refl _ w).alloc (Nat.le_refl _) _
  have hs : s = true ∧ b = false ∨ s = false ∧ n.toList.isEmpty = true ∧ n.toList = [] ∧ b = false ∨ s = false ∧ n.toList.isEmpty = false ∧ ¬ n.toList = [] ∧ b = true := by
    cases s with
    | true => exact .inl ⟨rfl, hb' rfl⟩
    | false => exact .inr ((hb rfl).imp (fun h => ⟨rfl, h⟩) (fun h => ⟨rfl, h⟩))
  clear hb hb'
  go_enter Tryz.func67, Tryz.ntmps67
  go_wp2_with (fail)
  refine (TC.out _).mono ?_
  rintro e w1 ⟨rfl, hb⟩
  have HA1 := Lib.hid (HA.out.under hb)
  have HW1 := Lib.hid (HW.out.trans (hb.mono HW.out.size))
  clear hb
  dsimp only
  have HA2 := Lib.hid (HA1.out.set (i := 0) (.bool b))
  have HW2 := Lib.hid (HW1.out.setCell (p := ⟨w.heap.size, 0, none⟩) (by simp) (.bool b))
  have c0 := HA1.out.cell (i := 0) rfl
  have c1 := HA1.out.cell (i := 1) rfl
  have fr := HA1.out.frozen
  have e0 := HA2.out.cell (i := 0) rfl
  have e1 := HA2.out.cell (i := 1) rfl
  have e2 := HA2.out.cell (i := 2) rfl
  rcases hs with ⟨rfl, rfl⟩ | ⟨rfl, z1, z2, rfl⟩ | ⟨rfl, z1, z2, rfl⟩
  all_goals
    go_wp2_with (fail)
    refine (TF.out _).mono ?_
    rintro e w2 ⟨rfl, hb⟩
    have HW3 := Lib.hid (HW2.out.trans (hb.mono HW2.out.size))
    clear hb
    go_wp2
    go_ret2
    exact ⟨rfl, HW3.out⟩

theorem Ceil_any (r : RV) (hr : r.fits) (w : World) : Calls Tryz.prog 67 #[r.v] w fun e w' => e = .returned (.tuple #[.int .i64 (ceilR r).1, .int .i64 (ceilR r).2]) ∧ Below w.heap.size w w' := by
  unfold ceilR
  cases hok : r.ok with
  | false =>
    rw [if_neg (by simp)]
    have TC : Hid (∀ w : World, Calls Tryz.prog 16 #[.agg #[.bool r.neg, .string r.n, .string r.d]] w fun e w' => e = .returned (.int .i64 70) ∧ Below w.heap.size w w') := fun w => by
      have := RCheck_any r.neg r.n r.d hr.1 hr.2 w
      rwa [show chkV r.neg r.n r.d = 70 from if_neg (by unfold RV.ok at hok; simp [hok])] at this
    clear hok hr
    obtain ⟨s, n, d⟩ := r
    unfold RV.v rV
    dsimp only at *
    have HW : Hid (Below w.heap.size w (w.alloc (.cells #[.bool s, .string n, .string d] 25))) := (Below.refl _ w).alloc (Nat.le_refl _) _
    have HA : Hid (Blk (w.alloc (.cells #[.bool s, .string n, .string d] 25)) w.heap.size 25 #[.bool s, .string n, .string d]) := Blk.new w _ _
    have c0 := HA.out.cell (i := 0) rfl
    have c1 := HA.out.cell (i := 1) rfl
    have c2 := HA.out.cell (i := 2) rfl
    go_enter Tryz.func67, Tryz.ntmps67
    go_wp2_with (fail)
    refine (TC.out _).mono ?_
    rintro e w1 ⟨rfl, hb⟩
    have HW1 := Lib.hid (HW.out.trans (hb.mono HW.out.size))
    clear hb
    go_wp2
    go_ret2
    exact ⟨rfl, HW1.out⟩
  | true =>
    rw [if_pos rfl]
    obtain ⟨e, o⟩ := RV.ok_is hok
    rw [e, ofQ_q]
    generalize r.q = q at *
    have hw : within (ceilQ q) = (-(within (-q).floor).1, (within (-q).floor).2) := by
      unfold ceilQ
      generalize (-q).floor = f
      unfold within
      rw [Int.natAbs_neg]
      split <;> rfl
    have hwr : IntKind.i64.wrap (-(within (-q).floor).1) = -(within (-q).floor).1 := by
      generalize (-q).floor = f
      refine Go.IntWalk.i64_in _ ?_
      unfold within
      split <;> constructor <;> dsimp only <;> omega
    rw [hw]
    refine ceil_gen _ _ _ _ _ _ hwr (decide (-q < 0)) (fun h => op3_t q h) (fun h => op3_f q h) (fun w => ?_) (fun w => ?_) w
    · have := RCheck_any (decide (q < 0)) (nat q.num.natAbs) (nat q.den) (nat_le o.1) (nat_le o.2) w
      rwa [show chkV _ _ _ = 0 from if_pos (ratOk_q q o.1 o.2)] at this
    · have := Floor_any (ofQ (-q)) ⟨nat_le (okQ_neg o).1, nat_le (okQ_neg o).2⟩ w
      rw [ofQ_v, qV_neg] at this
      unfold floorR at this
      rw [if_pos (ofQ_ok (okQ_neg o)), ofQ_q] at this
      exact this
end Go.Proofs.YteggbpaljmopoaaGreat
