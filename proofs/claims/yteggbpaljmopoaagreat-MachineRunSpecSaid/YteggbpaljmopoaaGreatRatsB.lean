/- The package ratios: what its operations return. Conditions: those that each theorem states. -/
import Derived.Test.YteggbpaljmopoaaGreatRatsA
set_option linter.unusedVariables false
set_option linter.unusedSimpArgs false
/- Walks of ratios: the first of the operations, the sum of two valid ratios. -/
namespace Go.Proofs.YteggbpaljmopoaaGreat
open Go.RowKit BF

/-- a box of a ratio: its three cells, two of them together -/
theorem six {W : World} {ga gb : Nat} {T : TypeId} {s t : Bool} {n d m c : ByteArray} (ha : Blk W ga T #[.bool s, .string n, .string d]) (hb : Blk W gb T #[.bool t, .string m, .string c]) :
    W.cell? ⟨ga, 0, none⟩ = some (.bool s) ∧ W.cell? ⟨ga, 1, none⟩ = some (.string n) ∧ W.cell? ⟨ga, 2, none⟩ = some (.string d) ∧ W.cell? ⟨gb, 0, none⟩ = some (.bool t) ∧ W.cell? ⟨gb, 1, none⟩ = some (.string m) ∧ W.cell? ⟨gb, 2, none⟩ = some (.string c) :=
  ⟨ha.cell rfl, ha.cell rfl, ha.cell rfl, hb.cell rfl, hb.cell rfl, hb.cell rfl⟩

/-- the world when two ratios and a result have been boxed -/
theorem ratio_boxes (w : World) (s t : Bool) (n d m c : ByteArray) : ∃ W, ((w.alloc (.cells #[.bool s, .string n, .string d] 25)).alloc (.cells #[.bool t, .string m, .string c] 25)).alloc (.cells #[.bool false, .string { data := #[] }, .string { data := #[] }] 25) = W ∧
    Hid (Blk W w.heap.size 25 #[.bool s, .string n, .string d]) ∧ Hid (Blk W (w.heap.size + 1) 25 #[.bool t, .string m, .string c]) ∧ Hid (Blk W (w.heap.size + 1 + 1) 25 #[.bool false, .string { data := #[] }, .string { data := #[] }]) ∧ Hid (Below w.heap.size w W) :=
  ⟨_, rfl, ((Blk.new w _ _).alloc _).alloc _, (Blk.new' _ _ _ _ (by simp)).alloc _, Blk.new' _ _ _ _ (by simp), (((Below.refl _ w).alloc (Nat.le_refl _) _).alloc (by simp) _).alloc (by simp; omega) _⟩

theorem sadd_ok (s t : Bool) (x1 x2 : Nat) (h1 : small x1) (h2 : small x2) (h : s = t → small (x1 + x2)) (w : World) :
    Calls Tryz.prog 160 #[sV s (nat x1), sV t (nat x2)] w fun e w' => e = .returned (sV (saddNeg s x1 t x2) (nat (saddN s x1 t x2))) ∧ Below w.heap.size w w' := by
  unfold saddNeg saddN
  by_cases hst : s = t
  · subst hst
    rw [if_pos rfl, if_pos rfl]
    exact sadd_same s x1 x2 h1 h2 (h rfl) w
  · have hst2 : (s == t) = false := by simpa using hst
    rw [if_neg hst, if_neg hst]
    by_cases hlt : x1 < x2
    · rw [if_pos hlt, if_pos hlt]
      exact sadd_lt s t hst2 x1 x2 h1 h2 hlt w
    · rw [if_neg hlt, if_neg hlt]
      exact sadd_ge s t hst2 x1 x2 h1 h2 hlt w

theorem small_saddN {s t : Bool} {x1 x2 : Nat} (h1 : small x1) (h2 : small x2) (h : s = t → small (x1 + x2)) : small (saddN s x1 t x2) := by
  unfold saddN
  by_cases hst : s = t
  · rw [if_pos hst]; exact h hst
  · rw [if_neg hst]
    split
    · exact small_mono h2 (Nat.sub_le _ _)
    · exact small_mono h1 (Nat.sub_le _ _)

set_option maxRecDepth 100000 in
set_option maxHeartbeats 2000000 in
theorem ops1_ok (s t sg B0 : Bool) (n d m c dc x y z N0 D0 : ByteArray)
    (TD : Hid (∀ w : World, Calls Tryz.prog 159 #[.string d, .string c] w fun e w' => e = .returned (.string dc) ∧ Below w.heap.size w w'))
    (TX : Hid (∀ w : World, Calls Tryz.prog 159 #[.string n, .string c] w fun e w' => e = .returned (.string x) ∧ Below w.heap.size w w'))
    (TY : Hid (∀ w : World, Calls Tryz.prog 159 #[.string m, .string d] w fun e w' => e = .returned (.string y) ∧ Below w.heap.size w w'))
    (TS : Hid (∀ w : World, Calls Tryz.prog 160 #[.agg #[.bool s, .string x], .agg #[.bool t, .string y]] w fun e w' => e = .returned (.agg #[.bool sg, .string z]) ∧ Below w.heap.size w w'))
    (TO : Hid (∀ w : World, Calls Tryz.prog 35 #[.agg #[.bool sg, .string z], .string dc] w fun e w' => e = .returned (.agg #[.bool B0, .string N0, .string D0]) ∧ Below w.heap.size w w')) (w : World) :
    Calls Tryz.prog 158 #[.agg #[.bool s, .string n, .string d], .agg #[.bool t, .string m, .string c]] w fun e w' => e = .returned (.agg #[.bool B0, .string N0, .string D0]) ∧ Below w.heap.size w w' := by
  go_enter Tryz.func158, Tryz.ntmps158
  go_wp2_with (fail)
  obtain ⟨W0, hW, HA, HB, HR, HW⟩ := ratio_boxes w s t n d m c
  rw [hW]
  refine (TD.out _).mono ?_
  rintro e w1 ⟨rfl, hb⟩
  have HA1 := Lib.hid (HA.out.under hb)
  have HB1 := Lib.hid (HB.out.under hb)
  have HR1 := Lib.hid (HR.out.under hb)
  have HW1 := Lib.hid (HW.out.trans (hb.mono HW.out.size))
  clear hb HA HB HR HW hW
  go_wp2
  refine wp_region_held_drew (S := fun w' => w'.cell? ⟨w.heap.size, 0, none⟩ = some (.bool s) ∧ w'.cell? ⟨w.heap.size, 1, none⟩ = some (.string n) ∧ w'.cell? ⟨w.heap.size, 2, none⟩ = some (.string d) ∧ w'.cell? ⟨w.heap.size + 1, 0, none⟩ = some (.bool t) ∧ w'.cell? ⟨w.heap.size + 1, 1, none⟩ = some (.string m) ∧ w'.cell? ⟨w.heap.size + 1, 2, none⟩ = some (.string c)) (by kernel_rfl) (six HA1.out.drew HB1.out.drew) (fun hS1 => ?_)
  refine wpAnyH_take (i := 0) (v := ?_) rfl (by kernel_rfl) (by kernel_rfl) (by kernel_rfl) (fun _ _ _ h => h) (Or.inl ⟨by rfl, ?_⟩) (by assumption) ?_
  rotate_left
  · intro w hSw; (try dsimp only at hSw); go_simp; try with_reducible rfl
  try simp only [Act.put, List.setIfInBounds_toArray, List.set_cons_zero, List.set_cons_succ]
  refine wpAnyH_take (i := 1) (v := ?_) rfl (by kernel_rfl) (by kernel_rfl) (by kernel_rfl) (fun _ _ _ h => h) (Or.inl ⟨by rfl, ?_⟩) (by assumption) ?_
  rotate_left
  · intro w hSw; (try dsimp only at hSw); go_simp; try with_reducible rfl
  try simp only [Act.put, List.setIfInBounds_toArray, List.set_cons_zero, List.set_cons_succ]
  refine wpAnyH_take (i := 2) (v := ?_) rfl (by kernel_rfl) (by kernel_rfl) (by kernel_rfl) (fun _ _ _ h => h) (Or.inl ⟨by rfl, ?_⟩) (by assumption) ?_
  rotate_left
  · intro w hSw; (try dsimp only at hSw); go_simp; try with_reducible rfl
  try simp only [Act.put, List.setIfInBounds_toArray, List.set_cons_zero, List.set_cons_succ]
  refine wpAnyH_take (i := 3) (v := ?_) rfl (by kernel_rfl) (by kernel_rfl) (by kernel_rfl) (fun _ _ _ h => h) (Or.inl ⟨by rfl, ?_⟩) (by assumption) ?_
  rotate_left
  · intro w hSw; (try dsimp only at hSw); go_simp; try with_reducible rfl
  try simp only [Act.put, List.setIfInBounds_toArray, List.set_cons_zero, List.set_cons_succ]
  refine wpAnyH_take (i := 4) (v := ?_) rfl (by kernel_rfl) (by kernel_rfl) (by kernel_rfl) (fun _ _ _ h => h) (Or.inl ⟨by rfl, ?_⟩) (by assumption) ?_
  rotate_left
  · intro w hSw; (try dsimp only at hSw); go_simp; try with_reducible rfl
  try simp only [Act.put, List.setIfInBounds_toArray, List.set_cons_zero, List.set_cons_succ]
  refine wpAnyH_take (i := 5) (v := ?_) rfl (by kernel_rfl) (by kernel_rfl) (by kernel_rfl) (fun _ _ _ h => h) (Or.inl ⟨by rfl, ?_⟩) (by assumption) ?_
  rotate_left
  · intro w hSw; (try dsimp only at hSw); go_simp; try with_reducible rfl
  try simp only [Act.put, List.setIfInBounds_toArray, List.set_cons_zero, List.set_cons_succ]
  refine wpAnyH_take (i := 8) (v := ?_) rfl (by kernel_rfl) (by kernel_rfl) (by kernel_rfl) (fun _ _ _ h => h) (Or.inl ⟨by rfl, ?_⟩) (by assumption) ?_
  rotate_left
  · intro w hSw; (try dsimp only at hSw); go_simp; try with_reducible rfl
  try simp only [Act.put, List.setIfInBounds_toArray, List.set_cons_zero, List.set_cons_succ]
  refine wpAnyH_take (i := 9) (v := ?_) rfl (by kernel_rfl) (by kernel_rfl) (by kernel_rfl) (fun _ _ _ h => h) (Or.inl ⟨by rfl, ?_⟩) (by assumption) ?_
  rotate_left
  · intro w hSw; (try dsimp only at hSw); go_simp; try with_reducible rfl
  try simp only [Act.put, List.setIfInBounds_toArray, List.set_cons_zero, List.set_cons_succ]
  refine wpAnyH_take (i := 10) (v := ?_) rfl (by kernel_rfl) (by kernel_rfl) (by kernel_rfl) (fun _ _ _ h => h) (Or.inl ⟨by rfl, ?_⟩) (by assumption) ?_
  rotate_left
  · intro w hSw; (try dsimp only at hSw); go_simp; try with_reducible rfl
  try simp only [Act.put, List.setIfInBounds_toArray, List.set_cons_zero, List.set_cons_succ]
  refine wpAnyH_take (i := 11) (v := ?_) rfl (by kernel_rfl) (by kernel_rfl) (by kernel_rfl) (fun _ _ _ h => h) (Or.inl ⟨by rfl, ?_⟩) (by assumption) ?_
  rotate_left
  · intro w hSw; (try dsimp only at hSw); go_simp; try with_reducible rfl
  try simp only [Act.put, List.setIfInBounds_toArray, List.set_cons_zero, List.set_cons_succ]
  refine wpAnyH_take (i := 12) (v := ?_) rfl (by kernel_rfl) (by kernel_rfl) (by kernel_rfl) (fun _ _ _ h => h) (Or.inl ⟨by rfl, ?_⟩) (by assumption) ?_
  rotate_left
  · intro w hSw; (try dsimp only at hSw); go_simp; try with_reducible rfl
  try simp only [Act.put, List.setIfInBounds_toArray, List.set_cons_zero, List.set_cons_succ]
  refine wpAnyH_take (i := 13) (v := ?_) rfl (by kernel_rfl) (by kernel_rfl) (by kernel_rfl) (fun _ _ _ h => h) (Or.inl ⟨by rfl, ?_⟩) (by assumption) ?_
  rotate_left
  · intro w hSw; (try dsimp only at hSw); go_simp; try with_reducible rfl
  try simp only [Act.put, List.setIfInBounds_toArray, List.set_cons_zero, List.set_cons_succ]
  refine wpAnyH_take (i := 17) (v := ?_) rfl (by kernel_rfl) (by kernel_rfl) (by kernel_rfl) (fun _ _ _ h => h) (Or.inl ⟨by rfl, ?_⟩) (by assumption) ?_
  rotate_left
  · intro w hSw; (try dsimp only at hSw); go_simp; try with_reducible rfl
  try simp only [Act.put, List.setIfInBounds_toArray, List.set_cons_zero, List.set_cons_succ]
  refine wpAnyH_ready (rs := [6]) (by kernel_rfl) (by simp) ?_
  refine AllReadyH.cons rfl (fun K hK => ?_) ?_
  · go_simp
    refine (TX.out _).mono ?_
    rintro e w2 ⟨rfl, hb⟩
    have HA2 := Lib.hid (HA1.out.drew.under hb)
    have HB2 := Lib.hid (HB1.out.drew.under hb)
    have HR2 := Lib.hid (HR1.out.drew.under hb)
    have HW2 := Lib.hid (HW1.out.drew.trans (hb.mono HW1.out.size))
    clear hb
    refine hK _ _ (six HA2.out HB2.out) (fun hS2 => ?_)
    clear hK K
    refine wpAnyH_take (i := 7) (v := ?_) rfl (by kernel_rfl) (by kernel_rfl) (by kernel_rfl) (fun _ _ _ h => h) (Or.inl ⟨by rfl, ?_⟩) (by assumption) ?_
    rotate_left
    · intro w hSw; (try dsimp only at hSw); go_simp; try with_reducible rfl
    try simp only [Act.put, List.setIfInBounds_toArray, List.set_cons_zero, List.set_cons_succ]
    refine wpAnyH_ready (rs := [14]) (by kernel_rfl) (by simp) ?_
    refine AllReadyH.cons rfl (fun K hK => ?_) ?_
    · go_simp
      refine (TY.out _).mono ?_
      rintro e w3 ⟨rfl, hb⟩
      have HA3 := Lib.hid (HA2.out.under hb)
      have HB3 := Lib.hid (HB2.out.under hb)
      have HR3 := Lib.hid (HR2.out.under hb)
      have HW3 := Lib.hid (HW2.out.trans (hb.mono HW2.out.size))
      clear hb
      refine hK _ _ (six HA3.out HB3.out) (fun hS3 => ?_)
      clear hK K
      refine wpAnyH_take (i := 15) (v := ?_) rfl (by kernel_rfl) (by kernel_rfl) (by kernel_rfl) (fun _ _ _ h => h) (Or.inl ⟨by rfl, ?_⟩) (by assumption) ?_
      rotate_left
      · intro w hSw; (try dsimp only at hSw); go_simp; try with_reducible rfl
      try simp only [Act.put, List.setIfInBounds_toArray, List.set_cons_zero, List.set_cons_succ]
      refine wpAnyH_ready (rs := [16]) (by kernel_rfl) (by simp) ?_
      refine AllReadyH.cons rfl (fun K hK => ?_) ?_
      · go_simp
        refine (TS.out _).mono ?_
        rintro e w4 ⟨rfl, hb⟩
        have HA4 := Lib.hid (HA3.out.under hb)
        have HB4 := Lib.hid (HB3.out.under hb)
        have HR4 := Lib.hid (HR3.out.under hb)
        have HW4 := Lib.hid (HW3.out.trans (hb.mono HW3.out.size))
        clear hb
        refine hK _ _ (six HA4.out HB4.out) (fun hS4 => ?_)
        clear hK K
        refine wpAnyH_ready (rs := [18]) (by kernel_rfl) (by simp) ?_
        refine AllReadyH.cons rfl (fun K hK => ?_) ?_
        · go_simp
          refine (TO.out _).mono ?_
          rintro e w5 ⟨rfl, hb⟩
          have HA5 := Lib.hid (HA4.out.under hb)
          have HB5 := Lib.hid (HB4.out.under hb)
          have HR5 := Lib.hid (HR4.out.under hb)
          have HW5 := Lib.hid (HW4.out.trans (hb.mono HW4.out.size))
          clear hb
          refine hK _ _ (six HA5.out HB5.out) (fun hS5 => ?_)
          clear hK K
          have r0 := HR5.out.cell (i := 0) rfl
          have r1 := HR5.out.cell (i := 1) rfl
          have r2 := HR5.out.cell (i := 2) rfl
          have fr := HR5.out.frozen
          refine wpAnyH_ready (rs := [19]) (by kernel_rfl) (by simp) ?_
          refine AllReadyH.cons rfl (fun K hK => ?_) ?_
          · go_simp
            refine hK _ _ (six (((HA5.out.other _ (by omega)).other _ (by omega)).other _ (by omega)) (((HB5.out.other _ (by omega)).other _ (by omega)).other _ (by omega))) (fun hS6 => ?_)
            clear hK K
            refine wpAnyH_done (by kernel_rfl) ?_ _
            go_wp2
            have HF := ((HR5.out.set (i := 0) (.bool B0)).set (i := 1) (.string N0)).set (i := 2) (.string D0)
            have e0 := HF.cell (i := 0) rfl
            have e1 := HF.cell (i := 1) rfl
            have e2 := HF.cell (i := 2) rfl
            refine bodyPost_ret (v := .agg #[.bool B0, .string N0, .string D0]) ?_ rfl ⟨rfl, ((HW5.out.setCell (by simp; omega) _).setCell (by simp; omega) _).setCell (by simp; omega) _⟩
            simp [results, Tryz.results158, go_sem, e0, e1, e2]
          exact AllReadyH.nil
        exact AllReadyH.nil
      exact AllReadyH.nil
    exact AllReadyH.nil
  exact AllReadyH.nil

set_option maxRecDepth 100000 in
set_option maxHeartbeats 2000000 in
theorem ops1_d (s t sg B0 : Bool) (n d m c dc x y z N0 D0 : ByteArray)
    (TD : Hid (∀ w : World, Calls Tryz.prog 159 #[.string d, .string c] w fun e w' => e = .panicked (failv 2) ∧ Below w.heap.size w w')) (w : World) :
    Calls Tryz.prog 158 #[.agg #[.bool s, .string n, .string d], .agg #[.bool t, .string m, .string c]] w fun e w' => e = .panicked (failv 2) ∧ Below w.heap.size w w' := by
  go_enter Tryz.func158, Tryz.ntmps158
  go_wp2_with (fail)
  obtain ⟨W0, hW, HA, HB, HR, HW⟩ := ratio_boxes w s t n d m c
  rw [hW]
  refine (TD.out _).mono ?_
  rintro e w1 ⟨rfl, hb⟩
  exact ⟨rfl, rfl, HW.out.trans (hb.mono HW.out.size)⟩

set_option maxRecDepth 100000 in
set_option maxHeartbeats 2000000 in
theorem ops1_s (s t sg B0 : Bool) (n d m c dc x y z N0 D0 : ByteArray)
    (TD : Hid (∀ w : World, Calls Tryz.prog 159 #[.string d, .string c] w fun e w' => e = .returned (.string dc) ∧ Below w.heap.size w w'))
    (TX : Hid (∀ w : World, Calls Tryz.prog 159 #[.string n, .string c] w fun e w' => e = .returned (.string x) ∧ Below w.heap.size w w'))
    (TY : Hid (∀ w : World, Calls Tryz.prog 159 #[.string m, .string d] w fun e w' => e = .returned (.string y) ∧ Below w.heap.size w w'))
    (TS : Hid (∀ w : World, Calls Tryz.prog 160 #[.agg #[.bool s, .string x], .agg #[.bool t, .string y]] w fun e w' => e = .panicked (failv 2) ∧ Below w.heap.size w w')) (w : World) :
    Calls Tryz.prog 158 #[.agg #[.bool s, .string n, .string d], .agg #[.bool t, .string m, .string c]] w fun e w' => e = .panicked (failv 2) ∧ Below w.heap.size w w' := by
  go_enter Tryz.func158, Tryz.ntmps158
  go_wp2_with (fail)
  obtain ⟨W0, hW, HA, HB, HR, HW⟩ := ratio_boxes w s t n d m c
  rw [hW]
  refine (TD.out _).mono ?_
  rintro e w1 ⟨rfl, hb⟩
  have HA1 := Lib.hid (HA.out.under hb)
  have HB1 := Lib.hid (HB.out.under hb)
  have HR1 := Lib.hid (HR.out.under hb)
  have HW1 := Lib.hid (HW.out.trans (hb.mono HW.out.size))
  clear hb HA HB HR HW hW
  go_wp2
  refine wp_region_held_drew (S := fun w' => w'.cell? ⟨w.heap.size, 0, none⟩ = some (.bool s) ∧ w'.cell? ⟨w.heap.size, 1, none⟩ = some (.string n) ∧ w'.cell? ⟨w.heap.size, 2, none⟩ = some (.string d) ∧ w'.cell? ⟨w.heap.size + 1, 0, none⟩ = some (.bool t) ∧ w'.cell? ⟨w.heap.size + 1, 1, none⟩ = some (.string m) ∧ w'.cell? ⟨w.heap.size + 1, 2, none⟩ = some (.string c)) (by kernel_rfl) (six HA1.out.drew HB1.out.drew) (fun hS1 => ?_)
  refine wpAnyH_take (i := 0) (v := ?_) rfl (by kernel_rfl) (by kernel_rfl) (by kernel_rfl) (fun _ _ _ h => h) (Or.inl ⟨by rfl, ?_⟩) (by assumption) ?_
  rotate_left
  · intro w hSw; (try dsimp only at hSw); go_simp; try with_reducible rfl
  try simp only [Act.put, List.setIfInBounds_toArray, List.set_cons_zero, List.set_cons_succ]
  refine wpAnyH_take (i := 1) (v := ?_) rfl (by kernel_rfl) (by kernel_rfl) (by kernel_rfl) (fun _ _ _ h => h) (Or.inl ⟨by rfl, ?_⟩) (by assumption) ?_
  rotate_left
  · intro w hSw; (try dsimp only at hSw); go_simp; try with_reducible rfl
  try simp only [Act.put, List.setIfInBounds_toArray, List.set_cons_zero, List.set_cons_succ]
  refine wpAnyH_take (i := 2) (v := ?_) rfl (by kernel_rfl) (by kernel_rfl) (by kernel_rfl) (fun _ _ _ h => h) (Or.inl ⟨by rfl, ?_⟩) (by assumption) ?_
  rotate_left
  · intro w hSw; (try dsimp only at hSw); go_simp; try with_reducible rfl
  try simp only [Act.put, List.setIfInBounds_toArray, List.set_cons_zero, List.set_cons_succ]
  refine wpAnyH_take (i := 3) (v := ?_) rfl (by kernel_rfl) (by kernel_rfl) (by kernel_rfl) (fun _ _ _ h => h) (Or.inl ⟨by rfl, ?_⟩) (by assumption) ?_
  rotate_left
  · intro w hSw; (try dsimp only at hSw); go_simp; try with_reducible rfl
  try simp only [Act.put, List.setIfInBounds_toArray, List.set_cons_zero, List.set_cons_succ]
  refine wpAnyH_take (i := 4) (v := ?_) rfl (by kernel_rfl) (by kernel_rfl) (by kernel_rfl) (fun _ _ _ h => h) (Or.inl ⟨by rfl, ?_⟩) (by assumption) ?_
  rotate_left
  · intro w hSw; (try dsimp only at hSw); go_simp; try with_reducible rfl
  try simp only [Act.put, List.setIfInBounds_toArray, List.set_cons_zero, List.set_cons_succ]
  refine wpAnyH_take (i := 5) (v := ?_) rfl (by kernel_rfl) (by kernel_rfl) (by kernel_rfl) (fun _ _ _ h => h) (Or.inl ⟨by rfl, ?_⟩) (by assumption) ?_
  rotate_left
  · intro w hSw; (try dsimp only at hSw); go_simp; try with_reducible rfl
  try simp only [Act.put, List.setIfInBounds_toArray, List.set_cons_zero, List.set_cons_succ]
  refine wpAnyH_take (i := 8) (v := ?_) rfl (by kernel_rfl) (by kernel_rfl) (by kernel_rfl) (fun _ _ _ h => h) (Or.inl ⟨by rfl, ?_⟩) (by assumption) ?_
  rotate_left
  · intro w hSw; (try dsimp only at hSw); go_simp; try with_reducible rfl
  try simp only [Act.put, List.setIfInBounds_toArray, List.set_cons_zero, List.set_cons_succ]
  refine wpAnyH_take (i := 9) (v := ?_) rfl (by kernel_rfl) (by kernel_rfl) (by kernel_rfl) (fun _ _ _ h => h) (Or.inl ⟨by rfl, ?_⟩) (by assumption) ?_
  rotate_left
  · intro w hSw; (try dsimp only at hSw); go_simp; try with_reducible rfl
  try simp only [Act.put, List.setIfInBounds_toArray, List.set_cons_zero, List.set_cons_succ]
  refine wpAnyH_take (i := 10) (v := ?_) rfl (by kernel_rfl) (by kernel_rfl) (by kernel_rfl) (fun _ _ _ h => h) (Or.inl ⟨by rfl, ?_⟩) (by assumption) ?_
  rotate_left
  · intro w hSw; (try dsimp only at hSw); go_simp; try with_reducible rfl
  try simp only [Act.put, List.setIfInBounds_toArray, List.set_cons_zero, List.set_cons_succ]
  refine wpAnyH_take (i := 11) (v := ?_) rfl (by kernel_rfl) (by kernel_rfl) (by kernel_rfl) (fun _ _ _ h => h) (Or.inl ⟨by rfl, ?_⟩) (by assumption) ?_
  rotate_left
  · intro w hSw; (try dsimp only at hSw); go_simp; try with_reducible rfl
  try simp only [Act.put, List.setIfInBounds_toArray, List.set_cons_zero, List.set_cons_succ]
  refine wpAnyH_take (i := 12) (v := ?_) rfl (by kernel_rfl) (by kernel_rfl) (by kernel_rfl) (fun _ _ _ h => h) (Or.inl ⟨by rfl, ?_⟩) (by assumption) ?_
  rotate_left
  · intro w hSw; (try dsimp only at hSw); go_simp; try with_reducible rfl
  try simp only [Act.put, List.setIfInBounds_toArray, List.set_cons_zero, List.set_cons_succ]
  refine wpAnyH_take (i := 13) (v := ?_) rfl (by kernel_rfl) (by kernel_rfl) (by kernel_rfl) (fun _ _ _ h => h) (Or.inl ⟨by rfl, ?_⟩) (by assumption) ?_
  rotate_left
  · intro w hSw; (try dsimp only at hSw); go_simp; try with_reducible rfl
  try simp only [Act.put, List.setIfInBounds_toArray, List.set_cons_zero, List.set_cons_succ]
  refine wpAnyH_take (i := 17) (v := ?_) rfl (by kernel_rfl) (by kernel_rfl) (by kernel_rfl) (fun _ _ _ h => h) (Or.inl ⟨by rfl, ?_⟩) (by assumption) ?_
  rotate_left
  · intro w hSw; (try dsimp only at hSw); go_simp; try with_reducible rfl
  try simp only [Act.put, List.setIfInBounds_toArray, List.set_cons_zero, List.set_cons_succ]
  refine wpAnyH_ready (rs := [6]) (by kernel_rfl) (by simp) ?_
  refine AllReadyH.cons rfl (fun K hK => ?_) ?_
  · go_simp
    refine (TX.out _).mono ?_
    rintro e w2 ⟨rfl, hb⟩
    have HA2 := Lib.hid (HA1.out.drew.under hb)
    have HB2 := Lib.hid (HB1.out.drew.under hb)
    have HR2 := Lib.hid (HR1.out.drew.under hb)
    have HW2 := Lib.hid (HW1.out.drew.trans (hb.mono HW1.out.size))
    clear hb
    refine hK _ _ (six HA2.out HB2.out) (fun hS2 => ?_)
    clear hK K
    refine wpAnyH_take (i := 7) (v := ?_) rfl (by kernel_rfl) (by kernel_rfl) (by kernel_rfl) (fun _ _ _ h => h) (Or.inl ⟨by rfl, ?_⟩) (by assumption) ?_
    rotate_left
    · intro w hSw; (try dsimp only at hSw); go_simp; try with_reducible rfl
    try simp only [Act.put, List.setIfInBounds_toArray, List.set_cons_zero, List.set_cons_succ]
    refine wpAnyH_ready (rs := [14]) (by kernel_rfl) (by simp) ?_
    refine AllReadyH.cons rfl (fun K hK => ?_) ?_
    · go_simp
      refine (TY.out _).mono ?_
      rintro e w3 ⟨rfl, hb⟩
      have HA3 := Lib.hid (HA2.out.under hb)
      have HB3 := Lib.hid (HB2.out.under hb)
      have HR3 := Lib.hid (HR2.out.under hb)
      have HW3 := Lib.hid (HW2.out.trans (hb.mono HW2.out.size))
      clear hb
      refine hK _ _ (six HA3.out HB3.out) (fun hS3 => ?_)
      clear hK K
      refine wpAnyH_take (i := 15) (v := ?_) rfl (by kernel_rfl) (by kernel_rfl) (by kernel_rfl) (fun _ _ _ h => h) (Or.inl ⟨by rfl, ?_⟩) (by assumption) ?_
      rotate_left
      · intro w hSw; (try dsimp only at hSw); go_simp; try with_reducible rfl
      try simp only [Act.put, List.setIfInBounds_toArray, List.set_cons_zero, List.set_cons_succ]
      refine wpAnyH_ready (rs := [16]) (by kernel_rfl) (by simp) ?_
      refine AllReadyH.cons rfl (fun K hK => ?_) ?_
      · go_simp
        refine (TS.out _).mono ?_
        rintro e wp ⟨rfl, hb⟩
        exact ⟨rfl, rfl, HW3.out.trans (hb.mono HW3.out.size)⟩
      exact AllReadyH.nil
    exact AllReadyH.nil
  exact AllReadyH.nil

set_option maxRecDepth 100000 in
set_option maxHeartbeats 2000000 in
theorem ops1_x (s t sg B0 : Bool) (n d m c dc x y z N0 D0 : ByteArray)
    (TD : Hid (∀ w : World, Calls Tryz.prog 159 #[.string d, .string c] w fun e w' => e = .returned (.string dc) ∧ Below w.heap.size w w'))
    (TX : Hid (∀ w : World, Calls Tryz.prog 159 #[.string n, .string c] w fun e w' => e = .panicked (failv 2) ∧ Below w.heap.size w w')) (w : World) :
    Calls Tryz.prog 158 #[.agg #[.bool s, .string n, .string d], .agg #[.bool t, .string m, .string c]] w fun e w' => e = .panicked (failv 2) ∧ Below w.heap.size w w' := by
  go_enter Tryz.func158, Tryz.ntmps158
  go_wp2_with (fail)
  obtain ⟨W0, hW, HA, HB, HR, HW⟩ := ratio_boxes w s t n d m c
  rw [hW]
  refine (TD.out _).mono ?_
  rintro e w1 ⟨rfl, hb⟩
  have HA1 := Lib.hid (HA.out.under hb)
  have HB1 := Lib.hid (HB.out.under hb)
  have HR1 := Lib.hid (HR.out.under hb)
  have HW1 := Lib.hid (HW.out.trans (hb.mono HW.out.size))
  clear hb HA HB HR HW hW
  go_wp2
  refine wp_region_held_drew (S := fun w' => w'.cell? ⟨w.heap.size, 0, none⟩ = some (.bool s) ∧ w'.cell? ⟨w.heap.size, 1, none⟩ = some (.string n) ∧ w'.cell? ⟨w.heap.size, 2, none⟩ = some (.string d) ∧ w'.cell? ⟨w.heap.size + 1, 0, none⟩ = some (.bool t) ∧ w'.cell? ⟨w.heap.size + 1, 1, none⟩ = some (.string m) ∧ w'.cell? ⟨w.heap.size + 1, 2, none⟩ = some (.string c)) (by kernel_rfl) (six HA1.out.drew HB1.out.drew) (fun hS1 => ?_)
  refine wpAnyH_take (i := 0) (v := ?_) rfl (by kernel_rfl) (by kernel_rfl) (by kernel_rfl) (fun _ _ _ h => h) (Or.inl ⟨by rfl, ?_⟩) (by assumption) ?_
  rotate_left
  · intro w hSw; (try dsimp only at hSw); go_simp; try with_reducible rfl
  try simp only [Act.put, List.setIfInBounds_toArray, List.set_cons_zero, List.set_cons_succ]
  refine wpAnyH_take (i := 1) (v := ?_) rfl (by kernel_rfl) (by kernel_rfl) (by kernel_rfl) (fun _ _ _ h => h) (Or.inl ⟨by rfl, ?_⟩) (by assumption) ?_
  rotate_left
  · intro w hSw; (try dsimp only at hSw); go_simp; try with_reducible rfl
  try simp only [Act.put, List.setIfInBounds_toArray, List.set_cons_zero, List.set_cons_succ]
  refine wpAnyH_take (i := 2) (v := ?_) rfl (by kernel_rfl) (by kernel_rfl) (by kernel_rfl) (fun _ _ _ h => h) (Or.inl ⟨by rfl, ?_⟩) (by assumption) ?_
  rotate_left
  · intro w hSw; (try dsimp only at hSw); go_simp; try with_reducible rfl
  try simp only [Act.put, List.setIfInBounds_toArray, List.set_cons_zero, List.set_cons_succ]
  refine wpAnyH_take (i := 3) (v := ?_) rfl (by kernel_rfl) (by kernel_rfl) (by kernel_rfl) (fun _ _ _ h => h) (Or.inl ⟨by rfl, ?_⟩) (by assumption) ?_
  rotate_left
  · intro w hSw; (try dsimp only at hSw); go_simp; try with_reducible rfl
  try simp only [Act.put, List.setIfInBounds_toArray, List.set_cons_zero, List.set_cons_succ]
  refine wpAnyH_take (i := 4) (v := ?_) rfl (by kernel_rfl) (by kernel_rfl) (by kernel_rfl) (fun _ _ _ h => h) (Or.inl ⟨by rfl, ?_⟩) (by assumption) ?_
  rotate_left
  · intro w hSw; (try dsimp only at hSw); go_simp; try with_reducible rfl
  try simp only [Act.put, List.setIfInBounds_toArray, List.set_cons_zero, List.set_cons_succ]
  refine wpAnyH_take (i := 5) (v := ?_) rfl (by kernel_rfl) (by kernel_rfl) (by kernel_rfl) (fun _ _ _ h => h) (Or.inl ⟨by rfl, ?_⟩) (by assumption) ?_
  rotate_left
  · intro w hSw; (try dsimp only at hSw); go_simp; try with_reducible rfl
  try simp only [Act.put, List.setIfInBounds_toArray, List.set_cons_zero, List.set_cons_succ]
  refine wpAnyH_take (i := 8) (v := ?_) rfl (by kernel_rfl) (by kernel_rfl) (by kernel_rfl) (fun _ _ _ h => h) (Or.inl ⟨by rfl, ?_⟩) (by assumption) ?_
  rotate_left
  · intro w hSw; (try dsimp only at hSw); go_simp; try with_reducible rfl
  try simp only [Act.put, List.setIfInBounds_toArray, List.set_cons_zero, List.set_cons_succ]
  refine wpAnyH_take (i := 9) (v := ?_) rfl (by kernel_rfl) (by kernel_rfl) (by kernel_rfl) (fun _ _ _ h => h) (Or.inl ⟨by rfl, ?_⟩) (by assumption) ?_
  rotate_left
  · intro w hSw; (try dsimp only at hSw); go_simp; try with_reducible rfl
  try simp only [Act.put, List.setIfInBounds_toArray, List.set_cons_zero, List.set_cons_succ]
  refine wpAnyH_take (i := 10) (v := ?_) rfl (by kernel_rfl) (by kernel_rfl) (by kernel_rfl) (fun _ _ _ h => h) (Or.inl ⟨by rfl, ?_⟩) (by assumption) ?_
  rotate_left
  · intro w hSw; (try dsimp only at hSw); go_simp; try with_reducible rfl
  try simp only [Act.put, List.setIfInBounds_toArray, List.set_cons_zero, List.set_cons_succ]
  refine wpAnyH_take (i := 11) (v := ?_) rfl (by kernel_rfl) (by kernel_rfl) (by kernel_rfl) (fun _ _ _ h => h) (Or.inl ⟨by rfl, ?_⟩) (by assumption) ?_
  rotate_left
  · intro w hSw; (try dsimp only at hSw); go_simp; try with_reducible rfl
  try simp only [Act.put, List.setIfInBounds_toArray, List.set_cons_zero, List.set_cons_succ]
  refine wpAnyH_take (i := 12) (v := ?_) rfl (by kernel_rfl) (by kernel_rfl) (by kernel_rfl) (fun _ _ _ h => h) (Or.inl ⟨by rfl, ?_⟩) (by assumption) ?_
  rotate_left
  · intro w hSw; (try dsimp only at hSw); go_simp; try with_reducible rfl
  try simp only [Act.put, List.setIfInBounds_toArray, List.set_cons_zero, List.set_cons_succ]
  refine wpAnyH_take (i := 13) (v := ?_) rfl (by kernel_rfl) (by kernel_rfl) (by kernel_rfl) (fun _ _ _ h => h) (Or.inl ⟨by rfl, ?_⟩) (by assumption) ?_
  rotate_left
  · intro w hSw; (try dsimp only at hSw); go_simp; try with_reducible rfl
  try simp only [Act.put, List.setIfInBounds_toArray, List.set_cons_zero, List.set_cons_succ]
  refine wpAnyH_take (i := 17) (v := ?_) rfl (by kernel_rfl) (by kernel_rfl) (by kernel_rfl) (fun _ _ _ h => h) (Or.inl ⟨by rfl, ?_⟩) (by assumption) ?_
  rotate_left
  · intro w hSw; (try dsimp only at hSw); go_simp; try with_reducible rfl
  try simp only [Act.put, List.setIfInBounds_toArray, List.set_cons_zero, List.set_cons_succ]
  refine wpAnyH_ready (rs := [6]) (by kernel_rfl) (by simp) ?_
  refine AllReadyH.cons rfl (fun K hK => ?_) ?_
  · go_simp
    refine (TX.out _).mono ?_
    rintro e wp ⟨rfl, hb⟩
    exact ⟨rfl, rfl, HW1.out.drew.trans (hb.mono HW1.out.size)⟩
  exact AllReadyH.nil

set_option maxRecDepth 100000 in
set_option maxHeartbeats 2000000 in
theorem ops1_y (s t sg B0 : Bool) (n d m c dc x y z N0 D0 : ByteArray)
    (TD : Hid (∀ w : World, Calls Tryz.prog 159 #[.string d, .string c] w fun e w' => e = .returned (.string dc) ∧ Below w.heap.size w w'))
    (TX : Hid (∀ w : World, Calls Tryz.prog 159 #[.string n, .string c] w fun e w' => e = .returned (.string x) ∧ Below w.heap.size w w'))
    (TY : Hid (∀ w : World, Calls Tryz.prog 159 #[.string m, .string d] w fun e w' => e = .panicked (failv 2) ∧ Below w.heap.size w w')) (w : World) :
    Calls Tryz.prog 158 #[.agg #[.bool s, .string n, .string d], .agg #[.bool t, .string m, .string c]] w fun e w' => e = .panicked (failv 2) ∧ Below w.heap.size w w' := by
  go_enter Tryz.func158, Tryz.ntmps158
  go_wp2_with (fail)
  obtain ⟨W0, hW, HA, HB, HR, HW⟩ := ratio_boxes w s t n d m c
  rw [hW]
  refine (TD.out _).mono ?_
  rintro e w1 ⟨rfl, hb⟩
  have HA1 := Lib.hid (HA.out.under hb)
  have HB1 := Lib.hid (HB.out.under hb)
  have HR1 := Lib.hid (HR.out.under hb)
  have HW1 := Lib.hid (HW.out.trans (hb.mono HW.out.size))
  clear hb HA HB HR HW hW
  go_wp2
  refine wp_region_held_drew (S := fun w' => w'.cell? ⟨w.heap.size, 0, none⟩ = some (.bool s) ∧ w'.cell? ⟨w.heap.size, 1, none⟩ = some (.string n) ∧ w'.cell? ⟨w.heap.size, 2, none⟩ = some (.string d) ∧ w'.cell? ⟨w.heap.size + 1, 0, none⟩ = some (.bool t) ∧ w'.cell? ⟨w.heap.size + 1, 1, none⟩ = some (.string m) ∧ w'.cell? ⟨w.heap.size + 1, 2, none⟩ = some (.string c)) (by kernel_rfl) (six HA1.out.drew HB1.out.drew) (fun hS1 => ?_)
  refine wpAnyH_take (i := 0) (v := ?_) rfl (by kernel_rfl) (by kernel_rfl) (by kernel_rfl) (fun _ _ _ h => h) (Or.inl ⟨by rfl, ?_⟩) (by assumption) ?_
  rotate_left
  · intro w hSw; (try dsimp only at hSw); go_simp; try with_reducible rfl
  try simp only [Act.put, List.setIfInBounds_toArray, List.set_cons_zero, List.set_cons_succ]
  refine wpAnyH_take (i := 1) (v := ?_) rfl (by kernel_rfl) (by kernel_rfl) (by kernel_rfl) (fun _ _ _ h => h) (Or.inl ⟨by rfl, ?_⟩) (by assumption) ?_
  rotate_left
  · intro w hSw; (try dsimp only at hSw); go_simp; try with_reducible rfl
  try simp only [Act.put, List.setIfInBounds_toArray, List.set_cons_zero, List.set_cons_succ]
  refine wpAnyH_take (i := 2) (v := ?_) rfl (by kernel_rfl) (by kernel_rfl) (by kernel_rfl) (fun _ _ _ h => h) (Or.inl ⟨by rfl, ?_⟩) (by assumption) ?_
  rotate_left
  · intro w hSw; (try dsimp only at hSw); go_simp; try with_reducible rfl
  try simp only [Act.put, List.setIfInBounds_toArray, List.set_cons_zero, List.set_cons_succ]
  refine wpAnyH_take (i := 3) (v := ?_) rfl (by kernel_rfl) (by kernel_rfl) (by kernel_rfl) (fun _ _ _ h => h) (Or.inl ⟨by rfl, ?_⟩) (by assumption) ?_
  rotate_left
  · intro w hSw; (try dsimp only at hSw); go_simp; try with_reducible rfl
  try simp only [Act.put, List.setIfInBounds_toArray, List.set_cons_zero, List.set_cons_succ]
  refine wpAnyH_take (i := 4) (v := ?_) rfl (by kernel_rfl) (by kernel_rfl) (by kernel_rfl) (fun _ _ _ h => h) (Or.inl ⟨by rfl, ?_⟩) (by assumption) ?_
  rotate_left
  · intro w hSw; (try dsimp only at hSw); go_simp; try with_reducible rfl
  try simp only [Act.put, List.setIfInBounds_toArray, List.set_cons_zero, List.set_cons_succ]
  refine wpAnyH_take (i := 5) (v := ?_) rfl (by kernel_rfl) (by kernel_rfl) (by kernel_rfl) (fun _ _ _ h => h) (Or.inl ⟨by rfl, ?_⟩) (by assumption) ?_
  rotate_left
  · intro w hSw; (try dsimp only at hSw); go_simp; try with_reducible rfl
  try simp only [Act.put, List.setIfInBounds_toArray, List.set_cons_zero, List.set_cons_succ]
  refine wpAnyH_take (i := 8) (v := ?_) rfl (by kernel_rfl) (by kernel_rfl) (by kernel_rfl) (fun _ _ _ h => h) (Or.inl ⟨by rfl, ?_⟩) (by assumption) ?_
  rotate_left
  · intro w hSw; (try dsimp only at hSw); go_simp; try with_reducible rfl
  try simp only [Act.put, List.setIfInBounds_toArray, List.set_cons_zero, List.set_cons_succ]
  refine wpAnyH_take (i := 9) (v := ?_) rfl (by kernel_rfl) (by kernel_rfl) (by kernel_rfl) (fun _ _ _ h => h) (Or.inl ⟨by rfl, ?_⟩) (by assumption) ?_
  rotate_left
  · intro w hSw; (try dsimp only at hSw); go_simp; try with_reducible rfl
  try simp only [Act.put, List.setIfInBounds_toArray, List.set_cons_zero, List.set_cons_succ]
  refine wpAnyH_take (i := 10) (v := ?_) rfl (by kernel_rfl) (by kernel_rfl) (by kernel_rfl) (fun _ _ _ h => h) (Or.inl ⟨by rfl, ?_⟩) (by assumption) ?_
  rotate_left
  · intro w hSw; (try dsimp only at hSw); go_simp; try with_reducible rfl
  try simp only [Act.put, List.setIfInBounds_toArray, List.set_cons_zero, List.set_cons_succ]
  refine wpAnyH_take (i := 11) (v := ?_) rfl (by kernel_rfl) (by kernel_rfl) (by kernel_rfl) (fun _ _ _ h => h) (Or.inl ⟨by rfl, ?_⟩) (by assumption) ?_
  rotate_left
  · intro w hSw; (try dsimp only at hSw); go_simp; try with_reducible rfl
  try simp only [Act.put, List.setIfInBounds_toArray, List.set_cons_zero, List.set_cons_succ]
  refine wpAnyH_take (i := 12) (v := ?_) rfl (by kernel_rfl) (by kernel_rfl) (by kernel_rfl) (fun _ _ _ h => h) (Or.inl ⟨by rfl, ?_⟩) (by assumption) ?_
  rotate_left
  · intro w hSw; (try dsimp only at hSw); go_simp; try with_reducible rfl
  try simp only [Act.put, List.setIfInBounds_toArray, List.set_cons_zero, List.set_cons_succ]
  refine wpAnyH_take (i := 13) (v := ?_) rfl (by kernel_rfl) (by kernel_rfl) (by kernel_rfl) (fun _ _ _ h => h) (Or.inl ⟨by rfl, ?_⟩) (by assumption) ?_
  rotate_left
  · intro w hSw; (try dsimp only at hSw); go_simp; try with_reducible rfl
  try simp only [Act.put, List.setIfInBounds_toArray, List.set_cons_zero, List.set_cons_succ]
  refine wpAnyH_take (i := 17) (v := ?_) rfl (by kernel_rfl) (by kernel_rfl) (by kernel_rfl) (fun _ _ _ h => h) (Or.inl ⟨by rfl, ?_⟩) (by assumption) ?_
  rotate_left
  · intro w hSw; (try dsimp only at hSw); go_simp; try with_reducible rfl
  try simp only [Act.put, List.setIfInBounds_toArray, List.set_cons_zero, List.set_cons_succ]
  refine wpAnyH_ready (rs := [6]) (by kernel_rfl) (by simp) ?_
  refine AllReadyH.cons rfl (fun K hK => ?_) ?_
  · go_simp
    refine (TX.out _).mono ?_
    rintro e w2 ⟨rfl, hb⟩
    have HA2 := Lib.hid (HA1.out.drew.under hb)
    have HB2 := Lib.hid (HB1.out.drew.under hb)
    have HR2 := Lib.hid (HR1.out.drew.under hb)
    have HW2 := Lib.hid (HW1.out.drew.trans (hb.mono HW1.out.size))
    clear hb
    refine hK _ _ (six HA2.out HB2.out) (fun hS2 => ?_)
    clear hK K
    refine wpAnyH_take (i := 7) (v := ?_) rfl (by kernel_rfl) (by kernel_rfl) (by kernel_rfl) (fun _ _ _ h => h) (Or.inl ⟨by rfl, ?_⟩) (by assumption) ?_
    rotate_left
    · intro w hSw; (try dsimp only at hSw); go_simp; try with_reducible rfl
    try simp only [Act.put, List.setIfInBounds_toArray, List.set_cons_zero, List.set_cons_succ]
    refine wpAnyH_ready (rs := [14]) (by kernel_rfl) (by simp) ?_
    refine AllReadyH.cons rfl (fun K hK => ?_) ?_
    · go_simp
      refine (TY.out _).mono ?_
      rintro e wp ⟨rfl, hb⟩
      exact ⟨rfl, rfl, HW2.out.trans (hb.mono HW2.out.size)⟩
    exact AllReadyH.nil
  exact AllReadyH.nil

end Go.Proofs.YteggbpaljmopoaaGreat
/- Walks of ratios: the other three operations. -/
namespace Go.Proofs.YteggbpaljmopoaaGreat
open Go.RowKit BF

set_option maxRecDepth 100000 in
set_option maxHeartbeats 2000000 in
theorem ops2_ok (s t B0 : Bool) (n d m c dc x N0 D0 : ByteArray)
    (TX : Hid (∀ w : World, Calls Tryz.prog 159 #[.string n, .string m] w fun e w' => e = .returned (.string x) ∧ Below w.heap.size w w'))
    (TD : Hid (∀ w : World, Calls Tryz.prog 159 #[.string d, .string c] w fun e w' => e = .returned (.string dc) ∧ Below w.heap.size w w'))
    (TO : Hid (∀ w : World, Calls Tryz.prog 35 #[.agg #[.bool (s != t), .string x], .string dc] w fun e w' => e = .returned (.agg #[.bool B0, .string N0, .string D0]) ∧ Below w.heap.size w w')) (w : World) :
    Calls Tryz.prog 161 #[.agg #[.bool s, .string n, .string d], .agg #[.bool t, .string m, .string c]] w fun e w' => e = .returned (.agg #[.bool B0, .string N0, .string D0]) ∧ Below w.heap.size w w' := by
  go_enter Tryz.func161, Tryz.ntmps161
  go_wp2_with (fail)
  obtain ⟨W0, hW, HA0, HB0, HR0, HW0⟩ := ratio_boxes w s t n d m c
  rw [hW]
  clear hW
  refine wp_region_held_drew (S := fun w' => w'.cell? ⟨w.heap.size, 0, none⟩ = some (.bool s) ∧ w'.cell? ⟨w.heap.size, 1, none⟩ = some (.string n) ∧ w'.cell? ⟨w.heap.size, 2, none⟩ = some (.string d) ∧ w'.cell? ⟨w.heap.size + 1, 0, none⟩ = some (.bool t) ∧ w'.cell? ⟨w.heap.size + 1, 1, none⟩ = some (.string m) ∧ w'.cell? ⟨w.heap.size + 1, 2, none⟩ = some (.string c)) (by kernel_rfl) (six HA0.out.drew HB0.out.drew) (fun hS0 => ?_)
  refine wpAnyH_take (i := 0) (v := ?_) rfl (by kernel_rfl) (by kernel_rfl) (by kernel_rfl) (fun _ _ _ h => h) (Or.inl ⟨by rfl, ?_⟩) (by assumption) ?_
  rotate_left
  · intro w hSw; (try dsimp only at hSw); go_simp; try with_reducible rfl
  try simp only [Act.put, List.setIfInBounds_toArray, List.set_cons_zero, List.set_cons_succ]
  refine wpAnyH_take (i := 1) (v := ?_) rfl (by kernel_rfl) (by kernel_rfl) (by kernel_rfl) (fun _ _ _ h => h) (Or.inl ⟨by rfl, ?_⟩) (by assumption) ?_
  rotate_left
  · intro w hSw; (try dsimp only at hSw); go_simp; try with_reducible rfl
  try simp only [Act.put, List.setIfInBounds_toArray, List.set_cons_zero, List.set_cons_succ]
  refine wpAnyH_take (i := 2) (v := ?_) rfl (by kernel_rfl) (by kernel_rfl) (by kernel_rfl) (fun _ _ _ h => h) (Or.inl ⟨by rfl, ?_⟩) (by assumption) ?_
  rotate_left
  · intro w hSw; (try dsimp only at hSw); go_simp; try with_reducible rfl
  try simp only [Act.put, List.setIfInBounds_toArray, List.set_cons_zero, List.set_cons_succ]
  refine wpAnyH_take (i := 3) (v := ?_) rfl (by kernel_rfl) (by kernel_rfl) (by kernel_rfl) (fun _ _ _ h => h) (Or.inl ⟨by rfl, ?_⟩) (by assumption) ?_
  rotate_left
  · intro w hSw; (try dsimp only at hSw); go_simp; try with_reducible rfl
  try simp only [Act.put, List.setIfInBounds_toArray, List.set_cons_zero, List.set_cons_succ]
  refine wpAnyH_take (i := 4) (v := ?_) rfl (by kernel_rfl) (by kernel_rfl) (by kernel_rfl) (fun _ _ _ h => h) (Or.inl ⟨by rfl, ?_⟩) (by assumption) ?_
  rotate_left
  · intro w hSw; (try dsimp only at hSw); go_simp; try with_reducible rfl
  try simp only [Act.put, List.setIfInBounds_toArray, List.set_cons_zero, List.set_cons_succ]
  refine wpAnyH_take (i := 5) (v := ?_) rfl (by kernel_rfl) (by kernel_rfl) (by kernel_rfl) (fun _ _ _ h => h) (Or.inl ⟨by rfl, ?_⟩) (by assumption) ?_
  rotate_left
  · intro w hSw; (try dsimp only at hSw); go_simp; try with_reducible rfl
  try simp only [Act.put, List.setIfInBounds_toArray, List.set_cons_zero, List.set_cons_succ]
  refine wpAnyH_take (i := 6) (v := ?_) rfl (by kernel_rfl) (by kernel_rfl) (by kernel_rfl) (fun _ _ _ h => h) (Or.inl ⟨by rfl, ?_⟩) (by assumption) ?_
  rotate_left
  · intro w hSw; (try dsimp only at hSw); go_simp; try with_reducible rfl
  try simp only [Act.put, List.setIfInBounds_toArray, List.set_cons_zero, List.set_cons_succ]
  refine wpAnyH_take (i := 7) (v := ?_) rfl (by kernel_rfl) (by kernel_rfl) (by kernel_rfl) (fun _ _ _ h => h) (Or.inl ⟨by rfl, ?_⟩) (by assumption) ?_
  rotate_left
  · intro w hSw; (try dsimp only at hSw); go_simp; try with_reducible rfl
  try simp only [Act.put, List.setIfInBounds_toArray, List.set_cons_zero, List.set_cons_succ]
  refine wpAnyH_take (i := 8) (v := ?_) rfl (by kernel_rfl) (by kernel_rfl) (by kernel_rfl) (fun _ _ _ h => h) (Or.inl ⟨by rfl, ?_⟩) (by assumption) ?_
  rotate_left
  · intro w hSw; (try dsimp only at hSw); go_simp; try with_reducible rfl
  try simp only [Act.put, List.setIfInBounds_toArray, List.set_cons_zero, List.set_cons_succ]
  refine wpAnyH_take (i := 11) (v := ?_) rfl (by kernel_rfl) (by kernel_rfl) (by kernel_rfl) (fun _ _ _ h => h) (Or.inl ⟨by rfl, ?_⟩) (by assumption) ?_
  rotate_left
  · intro w hSw; (try dsimp only at hSw); go_simp; try with_reducible rfl
  try simp only [Act.put, List.setIfInBounds_toArray, List.set_cons_zero, List.set_cons_succ]
  refine wpAnyH_take (i := 12) (v := ?_) rfl (by kernel_rfl) (by kernel_rfl) (by kernel_rfl) (fun _ _ _ h => h) (Or.inl ⟨by rfl, ?_⟩) (by assumption) ?_
  rotate_left
  · intro w hSw; (try dsimp only at hSw); go_simp; try with_reducible rfl
  try simp only [Act.put, List.setIfInBounds_toArray, List.set_cons_zero, List.set_cons_succ]
  refine wpAnyH_take (i := 13) (v := ?_) rfl (by kernel_rfl) (by kernel_rfl) (by kernel_rfl) (fun _ _ _ h => h) (Or.inl ⟨by rfl, ?_⟩) (by assumption) ?_
  rotate_left
  · intro w hSw; (try dsimp only at hSw); go_simp; try with_reducible rfl
  try simp only [Act.put, List.setIfInBounds_toArray, List.set_cons_zero, List.set_cons_succ]
  refine wpAnyH_take (i := 14) (v := ?_) rfl (by kernel_rfl) (by kernel_rfl) (by kernel_rfl) (fun _ _ _ h => h) (Or.inl ⟨by rfl, ?_⟩) (by assumption) ?_
  rotate_left
  · intro w hSw; (try dsimp only at hSw); go_simp; try with_reducible rfl
  try simp only [Act.put, List.setIfInBounds_toArray, List.set_cons_zero, List.set_cons_succ]
  refine wpAnyH_ready (rs := [9]) (by kernel_rfl) (by simp) ?_
  refine AllReadyH.cons rfl (fun K hK => ?_) ?_
  · go_simp
    refine (TX.out _).mono ?_
    rintro e w1 ⟨rfl, hb⟩
    have HA1 := Lib.hid (HA0.out.drew.under hb)
    have HB1 := Lib.hid (HB0.out.drew.under hb)
    have HR1 := Lib.hid (HR0.out.drew.under hb)
    have HW1 := Lib.hid (HW0.out.drew.trans (hb.mono HW0.out.size))
    clear hb
    refine hK _ _ (six HA1.out HB1.out) (fun hS1 => ?_)
    clear hK K
    refine wpAnyH_take (i := 10) (v := ?_) rfl (by kernel_rfl) (by kernel_rfl) (by kernel_rfl) (fun _ _ _ h => h) (Or.inl ⟨by rfl, ?_⟩) (by assumption) ?_
    rotate_left
    · intro w hSw; (try dsimp only at hSw); go_simp; try with_reducible rfl
    try simp only [Act.put, List.setIfInBounds_toArray, List.set_cons_zero, List.set_cons_succ]
    refine wpAnyH_ready (rs := [15]) (by kernel_rfl) (by simp) ?_
    refine AllReadyH.cons rfl (fun K hK => ?_) ?_
    · go_simp
      refine (TD.out _).mono ?_
      rintro e w2 ⟨rfl, hb⟩
      have HA2 := Lib.hid (HA1.out.under hb)
      have HB2 := Lib.hid (HB1.out.under hb)
      have HR2 := Lib.hid (HR1.out.under hb)
      have HW2 := Lib.hid (HW1.out.trans (hb.mono HW1.out.size))
      clear hb
      refine hK _ _ (six HA2.out HB2.out) (fun hS2 => ?_)
      clear hK K
      refine wpAnyH_ready (rs := [16]) (by kernel_rfl) (by simp) ?_
      refine AllReadyH.cons rfl (fun K hK => ?_) ?_
      · go_simp
        refine (TO.out _).mono ?_
        rintro e w3 ⟨rfl, hb⟩
        have HA3 := Lib.hid (HA2.out.under hb)
        have HB3 := Lib.hid (HB2.out.under hb)
        have HR3 := Lib.hid (HR2.out.under hb)
        have HW3 := Lib.hid (HW2.out.trans (hb.mono HW2.out.size))
        clear hb
        refine hK _ _ (six HA3.out HB3.out) (fun hS3 => ?_)
        clear hK K
        have r0 := HR3.out.cell (i := 0) rfl
        have r1 := HR3.out.cell (i := 1) rfl
        have r2 := HR3.out.cell (i := 2) rfl
        have fr := HR3.out.frozen
        refine wpAnyH_ready (rs := [17]) (by kernel_rfl) (by simp) ?_
        refine AllReadyH.cons rfl (fun K hK => ?_) ?_
        · go_simp
          refine hK _ _ (six (((HA3.out.other _ (by omega)).other _ (by omega)).other _ (by omega)) (((HB3.out.other _ (by omega)).other _ (by omega)).other _ (by omega))) (fun hS6 => ?_)
          clear hK K
          refine wpAnyH_done (by kernel_rfl) ?_ _
          go_wp2
          have HF := ((HR3.out.set (i := 0) (.bool B0)).set (i := 1) (.string N0)).set (i := 2) (.string D0)
          have e0 := HF.cell (i := 0) rfl
          have e1 := HF.cell (i := 1) rfl
          have e2 := HF.cell (i := 2) rfl
          refine bodyPost_ret (v := .agg #[.bool B0, .string N0, .string D0]) ?_ rfl ⟨rfl, ((HW3.out.setCell (by simp; omega) _).setCell (by simp; omega) _).setCell (by simp; omega) _⟩
          simp [results, Tryz.results161, go_sem, e0, e1, e2]
        exact AllReadyH.nil
      exact AllReadyH.nil
    exact AllReadyH.nil
  exact AllReadyH.nil

set_option maxRecDepth 100000 in
set_option maxHeartbeats 2000000 in
theorem ops2_x (s t B0 : Bool) (n d m c dc x N0 D0 : ByteArray)
    (TX : Hid (∀ w : World, Calls Tryz.prog 159 #[.string n, .string m] w fun e w' => e = .panicked (failv 2) ∧ Below w.heap.size w w')) (w : World) :
    Calls Tryz.prog 161 #[.agg #[.bool s, .string n, .string d], .agg #[.bool t, .string m, .string c]] w fun e w' => e = .panicked (failv 2) ∧ Below w.heap.size w w' := by
  go_enter Tryz.func161, Tryz.ntmps161
  go_wp2_with (fail)
  obtain ⟨W0, hW, HA0, HB0, HR0, HW0⟩ := ratio_boxes w s t n d m c
  rw [hW]
  clear hW
  refine wp_region_held_drew (S := fun w' => w'.cell? ⟨w.heap.size, 0, none⟩ = some (.bool s) ∧ w'.cell? ⟨w.heap.size, 1, none⟩ = some (.string n) ∧ w'.cell? ⟨w.heap.size, 2, none⟩ = some (.string d) ∧ w'.cell? ⟨w.heap.size + 1, 0, none⟩ = some (.bool t) ∧ w'.cell? ⟨w.heap.size + 1, 1, none⟩ = some (.string m) ∧ w'.cell? ⟨w.heap.size + 1, 2, none⟩ = some (.string c)) (by kernel_rfl) (six HA0.out.drew HB0.out.drew) (fun hS0 => ?_)
  refine wpAnyH_take (i := 0) (v := ?_) rfl (by kernel_rfl) (by kernel_rfl) (by kernel_rfl) (fun _ _ _ h => h) (Or.inl ⟨by rfl, ?_⟩) (by assumption) ?_
  rotate_left
  · intro w hSw; (try dsimp only at hSw); go_simp; try with_reducible rfl
  try simp only [Act.put, List.setIfInBounds_toArray, List.set_cons_zero, List.set_cons_succ]
  refine wpAnyH_take (i := 1) (v := ?_) rfl (by kernel_rfl) (by kernel_rfl) (by kernel_rfl) (fun _ _ _ h => h) (Or.inl ⟨by rfl, ?_⟩) (by assumption) ?_
  rotate_left
  · intro w hSw; (try dsimp only at hSw); go_simp; try with_reducible rfl
  try simp only [Act.put, List.setIfInBounds_toArray, List.set_cons_zero, List.set_cons_succ]
  refine wpAnyH_take (i := 2) (v := ?_) rfl (by kernel_rfl) (by kernel_rfl) (by kernel_rfl) (fun _ _ _ h => h) (Or.inl ⟨by rfl, ?_⟩) (by assumption) ?_
  rotate_left
  · intro w hSw; (try dsimp only at hSw); go_simp; try with_reducible rfl
  try simp only [Act.put, List.setIfInBounds_toArray, List.set_cons_zero, List.set_cons_succ]
  refine wpAnyH_take (i := 3) (v := ?_) rfl (by kernel_rfl) (by kernel_rfl) (by kernel_rfl) (fun _ _ _ h => h) (Or.inl ⟨by rfl, ?_⟩) (by assumption) ?_
  rotate_left
  · intro w hSw; (try dsimp only at hSw); go_simp; try with_reducible rfl
  try simp only [Act.put, List.setIfInBounds_toArray, List.set_cons_zero, List.set_cons_succ]
  refine wpAnyH_take (i := 4) (v := ?_) rfl (by kernel_rfl) (by kernel_rfl) (by kernel_rfl) (fun _ _ _ h => h) (Or.inl ⟨by rfl, ?_⟩) (by assumption) ?_
  rotate_left
  · intro w hSw; (try dsimp only at hSw); go_simp; try with_reducible rfl
  try simp only [Act.put, List.setIfInBounds_toArray, List.set_cons_zero, List.set_cons_succ]
  refine wpAnyH_take (i := 5) (v := ?_) rfl (by kernel_rfl) (by kernel_rfl) (by kernel_rfl) (fun _ _ _ h => h) (Or.inl ⟨by rfl, ?_⟩) (by assumption) ?_
  rotate_left
  · intro w hSw; (try dsimp only at hSw); go_simp; try with_reducible rfl
  try simp only [Act.put, List.setIfInBounds_toArray, List.set_cons_zero, List.set_cons_succ]
  refine wpAnyH_take (i := 6) (v := ?_) rfl (by kernel_rfl) (by kernel_rfl) (by kernel_rfl) (fun _ _ _ h => h) (Or.inl ⟨by rfl, ?_⟩) (by assumption) ?_
  rotate_left
  · intro w hSw; (try dsimp only at hSw); go_simp; try with_reducible rfl
  try simp only [Act.put, List.setIfInBounds_toArray, List.set_cons_zero, List.set_cons_succ]
  refine wpAnyH_take (i := 7) (v := ?_) rfl (by kernel_rfl) (by kernel_rfl) (by kernel_rfl) (fun _ _ _ h => h) (Or.inl ⟨by rfl, ?_⟩) (by assumption) ?_
  rotate_left
  · intro w hSw; (try dsimp only at hSw); go_simp; try with_reducible rfl
  try simp only [Act.put, List.setIfInBounds_toArray, List.set_cons_zero, List.set_cons_succ]
  refine wpAnyH_take (i := 8) (v := ?_) rfl (by kernel_rfl) (by kernel_rfl) (by kernel_rfl) (fun _ _ _ h => h) (Or.inl ⟨by rfl, ?_⟩) (by assumption) ?_
  rotate_left
  · intro w hSw; (try dsimp only at hSw); go_simp; try with_reducible rfl
  try simp only [Act.put, List.setIfInBounds_toArray, List.set_cons_zero, List.set_cons_succ]
  refine wpAnyH_take (i := 11) (v := ?_) rfl (by kernel_rfl) (by kernel_rfl) (by kernel_rfl) (fun _ _ _ h => h) (Or.inl ⟨by rfl, ?_⟩) (by assumption) ?_
  rotate_left
  · intro w hSw; (try dsimp only at hSw); go_simp; try with_reducible rfl
  try simp only [Act.put, List.setIfInBounds_toArray, List.set_cons_zero, List.set_cons_succ]
  refine wpAnyH_take (i := 12) (v := ?_) rfl (by kernel_rfl) (by kernel_rfl) (by kernel_rfl) (fun _ _ _ h => h) (Or.inl ⟨by rfl, ?_⟩) (by assumption) ?_
  rotate_left
  · intro w hSw; (try dsimp only at hSw); go_simp; try with_reducible rfl
  try simp only [Act.put, List.setIfInBounds_toArray, List.set_cons_zero, List.set_cons_succ]
  refine wpAnyH_take (i := 13) (v := ?_) rfl (by kernel_rfl) (by kernel_rfl) (by kernel_rfl) (fun _ _ _ h => h) (Or.inl ⟨by rfl, ?_⟩) (by assumption) ?_
  rotate_left
  · intro w hSw; (try dsimp only at hSw); go_simp; try with_reducible rfl
  try simp only [Act.put, List.setIfInBounds_toArray, List.set_cons_zero, List.set_cons_succ]
  refine wpAnyH_take (i := 14) (v := ?_) rfl (by kernel_rfl) (by kernel_rfl) (by kernel_rfl) (fun _ _ _ h => h) (Or.inl ⟨by rfl, ?_⟩) (by assumption) ?_
  rotate_left
  · intro w hSw; (try dsimp only at hSw); go_simp; try with_reducible rfl
  try simp only [Act.put, List.setIfInBounds_toArray, List.set_cons_zero, List.set_cons_succ]
  refine wpAnyH_ready (rs := [9]) (by kernel_rfl) (by simp) ?_
  refine AllReadyH.cons rfl (fun K hK => ?_) ?_
  · go_simp
    refine (TX.out _).mono ?_
    rintro e wp ⟨rfl, hb⟩
    exact ⟨rfl, rfl, HW0.out.drew.trans (hb.mono HW0.out.size)⟩
  exact AllReadyH.nil

set_option maxRecDepth 100000 in
set_option maxHeartbeats 2000000 in
theorem ops2_d (s t B0 : Bool) (n d m c dc x N0 D0 : ByteArray)
    (TX : Hid (∀ w : World, Calls Tryz.prog 159 #[.string n, .string m] w fun e w' => e = .returned (.string x) ∧ Below w.heap.size w w'))
    (TD : Hid (∀ w : World, Calls Tryz.prog 159 #[.string d, .string c] w fun e w' => e = .panicked (failv 2) ∧ Below w.heap.size w w')) (w : World) :
    Calls Tryz.prog 161 #[.agg #[.bool s, .string n, .string d], .agg #[.bool t, .string m, .string c]] w fun e w' => e = .panicked (failv 2) ∧ Below w.heap.size w w' := by
  go_enter Tryz.func161, Tryz.ntmps161
  go_wp2_with (fail)
  obtain ⟨W0, hW, HA0, HB0, HR0, HW0⟩ := ratio_boxes w s t n d m c
  rw [hW]
  clear hW
  refine wp_region_held_drew (S := fun w' => w'.cell? ⟨w.heap.size, 0, none⟩ = some (.bool s) ∧ w'.cell? ⟨w.heap.size, 1, none⟩ = some (.string n) ∧ w'.cell? ⟨w.heap.size, 2, none⟩ = some (.string d) ∧ w'.cell? ⟨w.heap.size + 1, 0, none⟩ = some (.bool t) ∧ w'.cell? ⟨w.heap.size + 1, 1, none⟩ = some (.string m) ∧ w'.cell? ⟨w.heap.size + 1, 2, none⟩ = some (.string c)) (by kernel_rfl) (six HA0.out.drew HB0.out.drew) (fun hS0 => ?_)
  refine wpAnyH_take (i := 0) (v := ?_) rfl (by kernel_rfl) (by kernel_rfl) (by kernel_rfl) (fun _ _ _ h => h) (Or.inl ⟨by rfl, ?_⟩) (by assumption) ?_
  rotate_left
  · intro w hSw; (try dsimp only at hSw); go_simp; try with_reducible rfl
  try simp only [Act.put, List.setIfInBounds_toArray, List.set_cons_zero, List.set_cons_succ]
  refine wpAnyH_take (i := 1) (v := ?_) rfl (by kernel_rfl) (by kernel_rfl) (by kernel_rfl) (fun _ _ _ h => h) (Or.inl ⟨by rfl, ?_⟩) (by assumption) ?_
  rotate_left
  · intro w hSw; (try dsimp only at hSw); go_simp; try with_reducible rfl
  try simp only [Act.put, List.setIfInBounds_toArray, List.set_cons_zero, List.set_cons_succ]
  refine wpAnyH_take (i := 2) (v := ?_) rfl (by kernel_rfl) (by kernel_rfl) (by kernel_rfl) (fun _ _ _ h => h) (Or.inl ⟨by rfl, ?_⟩) (by assumption) ?_
  rotate_left
  · intro w hSw; (try dsimp only at hSw); go_simp; try with_reducible rfl
  try simp only [Act.put, List.setIfInBounds_toArray, List.set_cons_zero, List.set_cons_succ]
  refine wpAnyH_take (i := 3) (v := ?_) rfl (by kernel_rfl) (by kernel_rfl) (by kernel_rfl) (fun _ _ _ h => h) (Or.inl ⟨by rfl, ?_⟩) (by assumption) ?_
  rotate_left
  · intro w hSw; (try dsimp only at hSw); go_simp; try with_reducible rfl
  try simp only [Act.put, List.setIfInBounds_toArray, List.set_cons_zero, List.set_cons_succ]
  refine wpAnyH_take (i := 4) (v := ?_) rfl (by kernel_rfl) (by kernel_rfl) (by kernel_rfl) (fun _ _ _ h => h) (Or.inl ⟨by rfl, ?_⟩) (by assumption) ?_
  rotate_left
  · intro w hSw; (try dsimp only at hSw); go_simp; try with_reducible rfl
  try simp only [Act.put, List.setIfInBounds_toArray, List.set_cons_zero, List.set_cons_succ]
  refine wpAnyH_take (i := 5) (v := ?_) rfl (by kernel_rfl) (by kernel_rfl) (by kernel_rfl) (fun _ _ _ h => h) (Or.inl ⟨by rfl, ?_⟩) (by assumption) ?_
  rotate_left
  · intro w hSw; (try dsimp only at hSw); go_simp; try with_reducible rfl
  try simp only [Act.put, List.setIfInBounds_toArray, List.set_cons_zero, List.set_cons_succ]
  refine wpAnyH_take (i := 6) (v := ?_) rfl (by kernel_rfl) (by kernel_rfl) (by kernel_rfl) (fun _ _ _ h => h) (Or.inl ⟨by rfl, ?_⟩) (by assumption) ?_
  rotate_left
  · intro w hSw; (try dsimp only at hSw); go_simp; try with_reducible rfl
  try simp only [Act.put, List.setIfInBounds_toArray, List.set_cons_zero, List.set_cons_succ]
  refine wpAnyH_take (i := 7) (v := ?_) rfl (by kernel_rfl) (by kernel_rfl) (by kernel_rfl) (fun _ _ _ h => h) (Or.inl ⟨by rfl, ?_⟩) (by assumption) ?_
  rotate_left
  · intro w hSw; (try dsimp only at hSw); go_simp; try with_reducible rfl
  try simp only [Act.put, List.setIfInBounds_toArray, List.set_cons_zero, List.set_cons_succ]
  refine wpAnyH_take (i := 8) (v := ?_) rfl (by kernel_rfl) (by kernel_rfl) (by kernel_rfl) (fun _ _ _ h => h) (Or.inl ⟨by rfl, ?_⟩) (by assumption) ?_
  rotate_left
  · intro w hSw; (try dsimp only at hSw); go_simp; try with_reducible rfl
  try simp only [Act.put, List.setIfInBounds_toArray, List.set_cons_zero, List.set_cons_succ]
  refine wpAnyH_take (i := 11) (v := ?_) rfl (by kernel_rfl) (by kernel_rfl) (by kernel_rfl) (fun _ _ _ h => h) (Or.inl ⟨by rfl, ?_⟩) (by assumption) ?_
  rotate_left
  · intro w hSw; (try dsimp only at hSw); go_simp; try with_reducible rfl
  try simp only [Act.put, List.setIfInBounds_toArray, List.set_cons_zero, List.set_cons_succ]
  refine wpAnyH_take (i := 12) (v := ?_) rfl (by kernel_rfl) (by kernel_rfl) (by kernel_rfl) (fun _ _ _ h => h) (Or.inl ⟨by rfl, ?_⟩) (by assumption) ?_
  rotate_left
  · intro w hSw; (try dsimp only at hSw); go_simp; try with_reducible rfl
  try simp only [Act.put, List.setIfInBounds_toArray, List.set_cons_zero, List.set_cons_succ]
  refine wpAnyH_take (i := 13) (v := ?_) rfl (by kernel_rfl) (by kernel_rfl) (by kernel_rfl) (fun _ _ _ h => h) (Or.inl ⟨by rfl, ?_⟩) (by assumption) ?_
  rotate_left
  · intro w hSw; (try dsimp only at hSw); go_simp; try with_reducible rfl
  try simp only [Act.put, List.setIfInBounds_toArray, List.set_cons_zero, List.set_cons_succ]
  refine wpAnyH_take (i := 14) (v := ?_) rfl (by kernel_rfl) (by kernel_rfl) (by kernel_rfl) (fun _ _ _ h => h) (Or.inl ⟨by rfl, ?_⟩) (by assumption) ?_
  rotate_left
  · intro w hSw; (try dsimp only at hSw); go_simp; try with_reducible rfl
  try simp only [Act.put, List.setIfInBounds_toArray, List.set_cons_zero, List.set_cons_succ]
  refine wpAnyH_ready (rs := [9]) (by kernel_rfl) (by simp) ?_
  refine AllReadyH.cons rfl (fun K hK => ?_) ?_
  · go_simp
    refine (TX.out _).mono ?_
    rintro e w1 ⟨rfl, hb⟩
    have HA1 := Lib.hid (HA0.out.drew.under hb)
    have HB1 := Lib.hid (HB0.out.drew.under hb)
    have HR1 := Lib.hid (HR0.out.drew.under hb)
    have HW1 := Lib.hid (HW0.out.drew.trans (hb.mono HW0.out.size))
    clear hb
    refine hK _ _ (six HA1.out HB1.out) (fun hS1 => ?_)
    clear hK K
    refine wpAnyH_take (i := 10) (v := ?_) rfl (by kernel_rfl) (by kernel_rfl) (by kernel_rfl) (fun _ _ _ h => h) (Or.inl ⟨by rfl, ?_⟩) (by assumption) ?_
    rotate_left
    · intro w hSw; (try dsimp only at hSw); go_simp; try with_reducible rfl
    try simp only [Act.put, List.setIfInBounds_toArray, List.set_cons_zero, List.set_cons_succ]
    refine wpAnyH_ready (rs := [15]) (by kernel_rfl) (by simp) ?_
    refine AllReadyH.cons rfl (fun K hK => ?_) ?_
    · go_simp
      refine (TD.out _).mono ?_
      rintro e wp ⟨rfl, hb⟩
      exact ⟨rfl, rfl, HW1.out.trans (hb.mono HW1.out.size)⟩
    exact AllReadyH.nil
  exact AllReadyH.nil

set_option maxRecDepth 100000 in
set_option maxHeartbeats 2000000 in
theorem ops3_ok {t2 : Bool} (s t B0 : Bool) (n d m c N0 D0 : ByteArray) (g : Nat)
    (hm : t = false → (m.toList.isEmpty = true ∧ m.toList = [] ∧ t2 = false) ∨ (m.toList.isEmpty = false ∧ ¬ m.toList = [] ∧ t2 = true)) (ht : t = true → t2 = false)
    (TA : Hid (∀ w : World, Calls Tryz.prog 158 #[.agg #[.bool s, .string n, .string d], .agg #[.bool t2, .string m, .string c]] w fun e w' => e = .returned (.agg #[.bool B0, .string N0, .string D0]) ∧ Below w.heap.size w w')) (w : World) (hg : Blk w g 207 #[.func (.func 158) #[] #[]]) :
    Calls Tryz.prog 162 #[.agg #[.bool s, .string n, .string d], .agg #[.bool t, .string m, .string c], .pointer (some ⟨g, 0, none⟩)] w fun e w' => e = .returned (.agg #[.bool B0, .string N0, .string D0]) ∧ Below w.heap.size w w' := by
  obtain ⟨W0, hW, HA0, HB0, HR0, HW0⟩ := ratio_boxes w s t n d m c
  have HG0 := Lib.hid (hg.below HW0.out hg.lt)
  have hgl := hg.lt
  have hts : t = true ∧ t2 = false ∨ t = false ∧ m.toList.isEmpty = true ∧ m.toList = [] ∧ t2 = false ∨ t = false ∧ m.toList.isEmpty = false ∧ ¬ m.toList = [] ∧ t2 = true := by
    cases t with
    | true => exact .inl ⟨rfl, ht rfl⟩
    | false => exact .inr ((hm rfl).imp (fun h => ⟨rfl, h⟩) (fun h => ⟨rfl, h⟩))
  have a0 := HA0.out.cell (i := 0) rfl
  have a1 := HA0.out.cell (i := 1) rfl
  have a2 := HA0.out.cell (i := 2) rfl
  have b0 := HB0.out.cell (i := 0) rfl
  have b1 := HB0.out.cell (i := 1) rfl
  have b2 := HB0.out.cell (i := 2) rfl
  have fb := HB0.out.frozen
  have g0 := HG0.out.cell (i := 0) rfl
  clear hm ht hg
  rcases hts with ⟨rfl, rfl⟩ | ⟨rfl, h1, h2, rfl⟩ | ⟨rfl, h1, h2, rfl⟩
  · have b0' := (HB0.out.set (i := 0) (.bool false)).cell (i := 0) rfl
    have b1' := (HB0.out.set (i := 0) (.bool false)).cell (i := 1) rfl
    have b2' := (HB0.out.set (i := 0) (.bool false)).cell (i := 2) rfl
    have HR1 := Lib.hid (HR0.out.other (i := 0) (c := w.heap.size + 1) (.bool false) (by omega))
    have HW1 := Lib.hid (HW0.out.setCell (p := ⟨w.heap.size + 1, 0, none⟩) (by simp) (.bool false))
    go_enter Tryz.func162, Tryz.ntmps162
    go_wp2_with (fail)
    clear hW
    refine (TA.out _).mono ?_
    rintro e w1 ⟨rfl, hb⟩
    have HR2 := Lib.hid (HR1.out.under hb)
    have HW2 := Lib.hid (HW1.out.trans (hb.mono HW1.out.size))
    clear hb
    have r0 := HR2.out.cell (i := 0) rfl
    have r1 := HR2.out.cell (i := 1) rfl
    have r2 := HR2.out.cell (i := 2) rfl
    have fr := HR2.out.frozen
    go_wp2
    have HF := ((HR2.out.set (i := 0) (.bool B0)).set (i := 1) (.string N0)).set (i := 2) (.string D0)
    have e0 := HF.cell (i := 0) rfl
    have e1 := HF.cell (i := 1) rfl
    have e2 := HF.cell (i := 2) rfl
    refine bodyPost_ret (v := .agg #[.bool B0, .string N0, .string D0]) ?_ rfl ⟨rfl, ((HW2.out.setCell (by simp; omega) _).setCell (by simp; omega) _).setCell (by simp; omega) _⟩
    simp [results, Tryz.results162, go_sem, e0, e1, e2]
  · have b0' := (HB0.out.set (i := 0) (.bool false)).cell (i := 0) rfl
    have b1' := (HB0.out.set (i := 0) (.bool false)).cell (i := 1) rfl
    have b2' := (HB0.out.set (i := 0) (.bool false)).cell (i := 2) rfl
    have HR1 := Lib.hid (HR0.out.other (i := 0) (c := w.heap.size + 1) (.bool false) (by omega))
    have HW1 := Lib.hid (HW0.out.setCell (p := ⟨w.heap.size + 1, 0, none⟩) (by simp) (.bool false))
    go_enter Tryz.func162, Tryz.ntmps162
    go_wp2_with (fail)
    clear hW
    refine (TA.out _).mono ?_
    rintro e w1 ⟨rfl, hb⟩
    have HR2 := Lib.hid (HR1.out.under hb)
    have HW2 := Lib.hid (HW1.out.trans (hb.mono HW1.out.size))
    clear hb
    have r0 := HR2.out.cell (i := 0) rfl
    have r1 := HR2.out.cell (i := 1) rfl
    have r2 := HR2.out.cell (i := 2) rfl
    have fr := HR2.out.frozen
    go_wp2
    have HF := ((HR2.out.set (i := 0) (.bool B0)).set (i := 1) (.string N0)).set (i := 2) (.string D0)
    have e0 := HF.cell (i := 0) rfl
    have e1 := HF.cell (i := 1) rfl
    have e2 := HF.cell (i := 2) rfl
    refine bodyPost_ret (v := .agg #[.bool B0, .string N0, .string D0]) ?_ rfl ⟨rfl, ((HW2.out.setCell (by simp; omega) _).setCell (by simp; omega) _).setCell (by simp; omega) _⟩
    simp [results, Tryz.results162, go_sem, e0, e1, e2]
  · have b0' := (HB0.out.set (i := 0) (.bool true)).cell (i := 0) rfl
    have b1' := (HB0.out.set (i := 0) (.bool true)).cell (i := 1) rfl
    have b2' := (HB0.out.set (i := 0) (.bool true)).cell (i := 2) rfl
    have HR1 := Lib.hid (HR0.out.other (i := 0) (c := w.heap.size + 1) (.bool true) (by omega))
    have HW1 := Lib.hid (HW0.out.setCell (p := ⟨w.heap.size + 1, 0, none⟩) (by simp) (.bool true))
    go_enter Tryz.func162, Tryz.ntmps162
    go_wp2_with (fail)
    clear hW
    refine (TA.out _).mono ?_
    rintro e w1 ⟨rfl, hb⟩
    have HR2 := Lib.hid (HR1.out.under hb)
    have HW2 := Lib.hid (HW1.out.trans (hb.mono HW1.out.size))
    clear hb
    have r0 := HR2.out.cell (i := 0) rfl
    have r1 := HR2.out.cell (i := 1) rfl
    have r2 := HR2.out.cell (i := 2) rfl
    have fr := HR2.out.frozen
    go_wp2
    have HF := ((HR2.out.set (i := 0) (.bool B0)).set (i := 1) (.string N0)).set (i := 2) (.string D0)
    have e0 := HF.cell (i := 0) rfl
    have e1 := HF.cell (i := 1) rfl
    have e2 := HF.cell (i := 2) rfl
    refine bodyPost_ret (v := .agg #[.bool B0, .string N0, .string D0]) ?_ rfl ⟨rfl, ((HW2.out.setCell (by simp; omega) _).setCell (by simp; omega) _).setCell (by simp; omega) _⟩
    simp [results, Tryz.results162, go_sem, e0, e1, e2]

set_option maxRecDepth 100000 in
set_option maxHeartbeats 2000000 in
theorem ops3_bad {t2 : Bool} (s t B0 : Bool) (n d m c N0 D0 : ByteArray) (g : Nat)
    (hm : t = false → (m.toList.isEmpty = true ∧ m.toList = [] ∧ t2 = false) ∨ (m.toList.isEmpty = false ∧ ¬ m.toList = [] ∧ t2 = true)) (ht : t = true → t2 = false)
    (TA : Hid (∀ w : World, Calls Tryz.prog 158 #[.agg #[.bool s, .string n, .string d], .agg #[.bool t2, .string m, .string c]] w fun e w' => e = .panicked (failv 2) ∧ Below w.heap.size w w')) (w : World) (hg : Blk w g 207 #[.func (.func 158) #[] #[]]) :
    Calls Tryz.prog 162 #[.agg #[.bool s, .string n, .string d], .agg #[.bool t, .string m, .string c], .pointer (some ⟨g, 0, none⟩)] w fun e w' => e = .panicked (failv 2) ∧ Below w.heap.size w w' := by
  obtain ⟨W0, hW, HA0, HB0, HR0, HW0⟩ := ratio_boxes w s t n d m c
  have HG0 := Lib.hid (hg.below HW0.out hg.lt)
  have hgl := hg.lt
  have hts : t = true ∧ t2 = false ∨ t = false ∧ m.toList.isEmpty = true ∧ m.toList = [] ∧ t2 = false ∨ t = false ∧ m.toList.isEmpty = false ∧ ¬ m.toList = [] ∧ t2 = true := by
    cases t with
    | true => exact .inl ⟨rfl, ht rfl⟩
    | false => exact .inr ((hm rfl).imp (fun h => ⟨rfl, h⟩) (fun h => ⟨rfl, h⟩))
  have a0 := HA0.out.cell (i := 0) rfl
  have a1 := HA0.out.cell (i := 1) rfl
  have a2 := HA0.out.cell (i := 2) rfl
  have b0 := HB0.out.cell (i := 0) rfl
  have b1 := HB0.out.cell (i := 1) rfl
  have b2 := HB0.out.cell (i := 2) rfl
  have fb := HB0.out.frozen
  have g0 := HG0.out.cell (i := 0) rfl
  clear hm ht hg
  rcases hts with ⟨rfl, rfl⟩ | ⟨rfl, h1, h2, rfl⟩ | ⟨rfl, h1, h2, rfl⟩
  · have b0' := (HB0.out.set (i := 0) (.bool false)).cell (i := 0) rfl
    have b1' := (HB0.out.set (i := 0) (.bool false)).cell (i := 1) rfl
    have b2' := (HB0.out.set (i := 0) (.bool false)).cell (i := 2) rfl
    have HR1 := Lib.hid (HR0.out.other (i := 0) (c := w.heap.size + 1) (.bool false) (by omega))
    have HW1 := Lib.hid (HW0.out.setCell (p := ⟨w.heap.size + 1, 0, none⟩) (by simp) (.bool false))
    go_enter Tryz.func162, Tryz.ntmps162
    go_wp2_with (fail)
    clear hW
    refine (TA.out _).mono ?_
    rintro e w1 ⟨rfl, hb⟩
    exact ⟨rfl, rfl, HW1.out.trans (hb.mono HW1.out.size)⟩
  · have b0' := (HB0.out.set (i := 0) (.bool false)).cell (i := 0) rfl
    have b1' := (HB0.out.set (i := 0) (.bool false)).cell (i := 1) rfl
    have b2' := (HB0.out.set (i := 0) (.bool false)).cell (i := 2) rfl
    have HR1 := Lib.hid (HR0.out.other (i := 0) (c := w.heap.size + 1) (.bool false) (by omega))
    have HW1 := Lib.hid (HW0.out.setCell (p := ⟨w.heap.size + 1, 0, none⟩) (by simp) (.bool false))
    go_enter Tryz.func162, Tryz.ntmps162
    go_wp2_with (fail)
    clear hW
    refine (TA.out _).mono ?_
    rintro e w1 ⟨rfl, hb⟩
    exact ⟨rfl, rfl, HW1.out.trans (hb.mono HW1.out.size)⟩
  · have b0' := (HB0.out.set (i := 0) (.bool true)).cell (i := 0) rfl
    have b1' := (HB0.out.set (i := 0) (.bool true)).cell (i := 1) rfl
    have b2' := (HB0.out.set (i := 0) (.bool true)).cell (i := 2) rfl
    have HR1 := Lib.hid (HR0.out.other (i := 0) (c := w.heap.size + 1) (.bool true) (by omega))
    have HW1 := Lib.hid (HW0.out.setCell (p := ⟨w.heap.size + 1, 0, none⟩) (by simp) (.bool true))
    go_enter Tryz.func162, Tryz.ntmps162
    go_wp2_with (fail)
    clear hW
    refine (TA.out _).mono ?_
    rintro e w1 ⟨rfl, hb⟩
    exact ⟨rfl, rfl, HW1.out.trans (hb.mono HW1.out.size)⟩

set_option maxRecDepth 100000 in
set_option maxHeartbeats 2000000 in
theorem ops4_ok (s t B0 : Bool) (n d m c N0 D0 : ByteArray) (g : Nat)
    (h1 : m.toList.isEmpty = false) (h2 : ¬ m.toList = [])
    (TA : Hid (∀ w : World, Calls Tryz.prog 161 #[.agg #[.bool s, .string n, .string d], .agg #[.bool t, .string c, .string m]] w fun e w' => e = .returned (.agg #[.bool B0, .string N0, .string D0]) ∧ Below w.heap.size w w')) (w : World) (hg : Blk w g 207 #[.func (.func 161) #[] #[]]) :
    Calls Tryz.prog 163 #[.agg #[.bool s, .string n, .string d], .agg #[.bool t, .string m, .string c], .pointer (some ⟨g, 0, none⟩)] w fun e w' => e = .returned (.agg #[.bool B0, .string N0, .string D0]) ∧ Below w.heap.size w w' := by
  obtain ⟨W0, hW, HA0, HB0, HR0, HW0⟩ := ratio_boxes w s t n d m c
  have HG0 := Lib.hid (hg.below HW0.out hg.lt)
  have hgl := hg.lt
  have a0 := HA0.out.cell (i := 0) rfl
  have a1 := HA0.out.cell (i := 1) rfl
  have a2 := HA0.out.cell (i := 2) rfl
  have b0 := HB0.out.cell (i := 0) rfl
  have b1 := HB0.out.cell (i := 1) rfl
  have b2 := HB0.out.cell (i := 2) rfl
  have g0 := HG0.out.cell (i := 0) rfl
  clear hg
  go_enter Tryz.func163, Tryz.ntmps163
  go_wp2_with (fail)
  clear hW
  refine (TA.out _).mono ?_
  rintro e w1 ⟨rfl, hb⟩
  have HR2 := Lib.hid (HR0.out.under hb)
  have HW2 := Lib.hid (HW0.out.trans (hb.mono HW0.out.size))
  clear hb
  have r0 := HR2.out.cell (i := 0) rfl
  have r1 := HR2.out.cell (i := 1) rfl
  have r2 := HR2.out.cell (i := 2) rfl
  have fr := HR2.out.frozen
  go_wp2
  have HF := ((HR2.out.set (i := 0) (.bool B0)).set (i := 1) (.string N0)).set (i := 2) (.string D0)
  have e0 := HF.cell (i := 0) rfl
  have e1 := HF.cell (i := 1) rfl
  have e2 := HF.cell (i := 2) rfl
  refine bodyPost_ret (v := .agg #[.bool B0, .string N0, .string D0]) ?_ rfl ⟨rfl, ((HW2.out.setCell (by simp; omega) _).setCell (by simp; omega) _).setCell (by simp; omega) _⟩
  simp [results, Tryz.results163, go_sem, e0, e1, e2]

set_option maxRecDepth 100000 in
set_option maxHeartbeats 2000000 in
theorem ops4_bad (s t B0 : Bool) (n d m c N0 D0 : ByteArray) (g : Nat)
    (h1 : m.toList.isEmpty = false) (h2 : ¬ m.toList = [])
    (TA : Hid (∀ w : World, Calls Tryz.prog 161 #[.agg #[.bool s, .string n, .string d], .agg #[.bool t, .string c, .string m]] w fun e w' => e = .panicked (failv 2) ∧ Below w.heap.size w w')) (w : World) (hg : Blk w g 207 #[.func (.func 161) #[] #[]]) :
    Calls Tryz.prog 163 #[.agg #[.bool s, .string n, .string d], .agg #[.bool t, .string m, .string c], .pointer (some ⟨g, 0, none⟩)] w fun e w' => e = .panicked (failv 2) ∧ Below w.heap.size w w' := by
  obtain ⟨W0, hW, HA0, HB0, HR0, HW0⟩ := ratio_boxes w s t n d m c
  have HG0 := Lib.hid (hg.below HW0.out hg.lt)
  have hgl := hg.lt
  have a0 := HA0.out.cell (i := 0) rfl
  have a1 := HA0.out.cell (i := 1) rfl
  have a2 := HA0.out.cell (i := 2) rfl
  have b0 := HB0.out.cell (i := 0) rfl
  have b1 := HB0.out.cell (i := 1) rfl
  have b2 := HB0.out.cell (i := 2) rfl
  have g0 := HG0.out.cell (i := 0) rfl
  clear hg
  go_enter Tryz.func163, Tryz.ntmps163
  go_wp2_with (fail)
  clear hW
  refine (TA.out _).mono ?_
  rintro e w1 ⟨rfl, hb⟩
  exact ⟨rfl, rfl, HW0.out.trans (hb.mono HW0.out.size)⟩

set_option maxRecDepth 100000 in
set_option maxHeartbeats 2000000 in
theorem ops4_zero (s t : Bool) (n d m c : ByteArray) (p : Value)
    (h1 : m.toList.isEmpty = true) (h2 : m.toList = []) (w : World) :
    Calls Tryz.prog 163 #[.agg #[.bool s, .string n, .string d], .agg #[.bool t, .string m, .string c], p] w fun e w' => e = .panicked (failv 71) ∧ Below w.heap.size w w' := by
  go_enter Tryz.func163, Tryz.ntmps163
  go_wp2
  exact ⟨rfl, rfl, (((Below.refl _ w).alloc (Nat.le_refl _) _).alloc (by simp) _).alloc (by simp; omega) _⟩

end Go.Proofs.YteggbpaljmopoaaGreat
