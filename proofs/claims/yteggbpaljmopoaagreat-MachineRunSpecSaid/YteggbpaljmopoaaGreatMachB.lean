/- The package machine: what its steps do. Conditions: those that each theorem states. -/
import Derived.Test.YteggbpaljmopoaaGreatMachA
import Derived.Deep.AppendLies
set_option linter.unusedVariables false
set_option linter.unusedSimpArgs false
/- machine: (*state).load. PRINTED BY wip/gen_load.py -/
namespace Go.Proofs.YteggbpaljmopoaaGreat
open Go.RowKit BF

theorem nine {W : World} {p g : Nat} {T T2 : TypeId} {c : Value} {a b : RV} {u k : Value} {lead at_ : Int} {done : Bool} {op xa xb : Int} {s : Bool} {nn d : ByteArray} (h : Blk W p T (stC c a b u k lead at_ done)) (hx : Blk W g T2 #[.int .i64 op, .int .i64 xa, .int .i64 xb, .bool s, .string nn, .string d]) :
    W.cell? ⟨p, 1, none⟩ = some (.bool a.neg) ∧ W.cell? ⟨p, 2, none⟩ = some (.string a.n) ∧ W.cell? ⟨p, 3, none⟩ = some (.string a.d) ∧ W.cell? ⟨p, 4, none⟩ = some (.bool b.neg) ∧ W.cell? ⟨p, 5, none⟩ = some (.string b.n) ∧ W.cell? ⟨p, 6, none⟩ = some (.string b.d) ∧ W.cell? ⟨g, 3, none⟩ = some (.bool s) ∧ W.cell? ⟨g, 4, none⟩ = some (.string nn) ∧ W.cell? ⟨g, 5, none⟩ = some (.string d) :=
  ⟨h.cell rfl, h.cell rfl, h.cell rfl, h.cell rfl, h.cell rfl, h.cell rfl, hx.cell rfl, hx.cell rfl, hx.cell rfl⟩
/-- a store into a ratio that stands whole -/
theorem box_fill {W : World} {g p q : Nat} {T T2 T3 : TypeId} {b0 : Bool} {s1 s2 : ByteArray} {vs ws : Array Value} (v0 : Bool) (v1 v2 : ByteArray) (hg : Blk W g T #[.bool b0, .string s1, .string s2]) (hp : Blk W p T2 vs) (hq : Blk W q T3 ws) (h1 : p ≠ g) (h2 : q ≠ g) {B : Nat} {W0 : World} {r : Option Nat} (hw : W0.grownBy W r) (hB : W0.heap.size ≤ g) :
    Hid (Blk (((W.setCell ⟨g, 0, none⟩ (.bool v0)).setCell ⟨g, 1, none⟩ (.string v1)).setCell ⟨g, 2, none⟩ (.string v2)) g T #[.bool v0, .string v1, .string v2]) ∧
    Hid (Blk (((W.setCell ⟨g, 0, none⟩ (.bool v0)).setCell ⟨g, 1, none⟩ (.string v1)).setCell ⟨g, 2, none⟩ (.string v2)) p T2 vs) ∧
    Hid (Blk (((W.setCell ⟨g, 0, none⟩ (.bool v0)).setCell ⟨g, 1, none⟩ (.string v1)).setCell ⟨g, 2, none⟩ (.string v2)) q T3 ws) ∧
    Hid (W0.grownBy (((W.setCell ⟨g, 0, none⟩ (.bool v0)).setCell ⟨g, 1, none⟩ (.string v1)).setCell ⟨g, 2, none⟩ (.string v2)) r) :=
  ⟨((hg.set (i := 0) _).set (i := 1) _).set (i := 2) _, ((hp.other _ h1).other _ h1).other _ h1, ((hq.other _ h2).other _ h2).other _ h2,
   ⟨hw.os, hw.tape, hw.output, by have := hw.size; simpa using this, fun k hk hr => by
     rw [Below.heap_setCell _ _ _ _ (by simp; omega), Below.heap_setCell _ _ _ _ (by simp; omega), Below.heap_setCell _ _ _ _ (by simp; omega)]; exact hw.block k hk hr⟩⟩
theorem grownBy_some {a b : World} (h : a.grownBy b none) (p : Nat) : a.grownBy b (some p) := ⟨h.os, h.tape, h.output, h.size, fun k hk _ => h.block k hk (by simp)⟩
theorem grownBy_under {a b c : World} {r : Option Nat} (h : a.grownBy b r) (k : Below b.heap.size b c) : a.grownBy c r :=
  ⟨k.os.trans h.os, k.tape.trans h.tape, k.output.trans h.output, Nat.le_trans h.size k.size, fun x hx hr => (k.block x (Nat.lt_of_lt_of_le hx h.size)).trans (h.block x hx hr)⟩

set_option maxRecDepth 100000 in
set_option maxHeartbeats 2000000 in
theorem load_zz : True := trivial
set_option maxRecDepth 100000 in
set_option maxHeartbeats 2000000 in
theorem load_bad (op xa xb : Int) (s : Bool) (nn d : ByteArray) (p : Nat) (c : Value) (a b : RV) (u k : Value) (lead at_ : Int) (done : Bool) (E : Int) (hE : (E != 0) = true) (v0 : Bool) (v1 v2 : ByteArray)
    (HD : Hid (∀ w : World, Calls Tryz.prog 65 #[.agg #[.bool a.neg, .string a.n, .string a.d], .agg #[.bool s, .string nn, .string d]] w fun e w' => e = .returned (.tuple #[.agg #[.bool v0, .string v1, .string v2], .int .i64 E]) ∧ Below w.heap.size w w'))
    (w : World) (hp : Blk w p 63 (stC c a b u k lead at_ done)) :
    Calls Tryz.prog 38 #[.pointer (some ⟨p, 0, none⟩), .agg #[.int .i64 op, .int .i64 xa, .int .i64 xb, .bool s, .string nn, .string d]] w fun e w' => e = .panicked (errv E) ∧ w.grownBy w' none := by
  have HP : Hid (Blk (w.alloc (.cells #[.int .i64 op, .int .i64 xa, .int .i64 xb, .bool s, .string nn, .string d] 40)) p 63 (stC c a b u k lead at_ done)) := hp.alloc _
  have HX : Hid (Blk (w.alloc (.cells #[.int .i64 op, .int .i64 xa, .int .i64 xb, .bool s, .string nn, .string d] 40)) w.heap.size 40 #[.int .i64 op, .int .i64 xa, .int .i64 xb, .bool s, .string nn, .string d]) := Blk.new _ _ _
  have HB : Hid (w.grownBy (w.alloc (.cells #[.int .i64 op, .int .i64 xa, .int .i64 xb, .bool s, .string nn, .string d] 40)) none) := World.grownBy_alloc _ _ _
  have hlt := hp.lt
  have hne : w.heap.size ≠ p := by omega
  clear hp
  go_enter Tryz.func38, Tryz.ntmps38
  go_wp2_with (fail)
  have hx0 := HX.out.lt
  generalize (w.alloc (.cells #[.int .i64 op, .int .i64 xa, .int .i64 xb, .bool s, .string nn, .string d] 40)) = W0 at *
  rename Hid (Blk W0 p _ _) => HP0
  rename Hid (Blk W0 w.heap.size _ _) => HX0
  rename Hid (w.grownBy W0 none) => HB0
  have HBd0 := Lib.hid (grownBy_drew HB0.out)
  refine wp_region_held_drew (S := fun w' => w'.cell? ⟨p, 1, none⟩ = some (.bool a.neg) ∧ w'.cell? ⟨p, 2, none⟩ = some (.string a.n) ∧ w'.cell? ⟨p, 3, none⟩ = some (.string a.d) ∧ w'.cell? ⟨p, 4, none⟩ = some (.bool b.neg) ∧ w'.cell? ⟨p, 5, none⟩ = some (.string b.n) ∧ w'.cell? ⟨p, 6, none⟩ = some (.string b.d) ∧ w'.cell? ⟨w.heap.size, 3, none⟩ = some (.bool s) ∧ w'.cell? ⟨w.heap.size, 4, none⟩ = some (.string nn) ∧ w'.cell? ⟨w.heap.size, 5, none⟩ = some (.string d)) (by kernel_rfl) (nine HP0.out.drew HX0.out.drew) (fun hS0 => ?_)
  refine wpAnyH_take (i := 0) (v := ?_) rfl (by kernel_rfl) (by kernel_rfl) (by kernel_rfl) (fun _ _ _ h => h) (Or.inl ⟨by rfl, ?_⟩) (by assumption) ?_
  rotate_left
  · intro w hSw; (try dsimp only at hSw); go_simp; try with_reducible rfl
  try simp only [Act.put, List.setIfInBounds_toArray, List.set_cons_zero, List.set_cons_succ]
  refine wpAnyH_take (i := 1) (v := ?_) rfl (by kernel_rfl) (by kernel_rfl) (by kernel_rfl) (fun _ _ _ h => h) (Or.inl ⟨by rfl, ?_⟩) (by assumption) ?_
  rotate_left
  · intro w hSw; (try dsimp only at hSw); go_simp; try with_reducible rfl
  try simp only [Act.put, List.setIfInBounds_toArray, List.set_cons_zero, List.set_cons_succ]
  refine wpAnyH_take (i := 2) (v := ?_) rfl (by kernel_rfl) (by kernel_rfl) (by kernel_rfl) (fun _ _ _ h => h) (Or.inl ⟨by rfl, ?_⟩) (by assumption) ?_
  rotate_left
  · intro w hSw; (try dsimp only at hSw); go_simp; try with_reducible rfl
  try simp only [Act.put, List.setIfInBounds_toArray, List.set_cons_zero, List.set_cons_succ]
  refine wpAnyH_take (i := 3) (v := ?_) rfl (by kernel_rfl) (by kernel_rfl) (by kernel_rfl) (fun _ _ _ h => h) (Or.inl ⟨by rfl, ?_⟩) (by assumption) ?_
  rotate_left
  · intro w hSw; (try dsimp only at hSw); go_simp; try with_reducible rfl
  try simp only [Act.put, List.setIfInBounds_toArray, List.set_cons_zero, List.set_cons_succ]
  refine wpAnyH_take (i := 4) (v := ?_) rfl (by kernel_rfl) (by kernel_rfl) (by kernel_rfl) (fun _ _ _ h => h) (Or.inl ⟨by rfl, ?_⟩) (by assumption) ?_
  rotate_left
  · intro w hSw; (try dsimp only at hSw); go_simp; try with_reducible rfl
  try simp only [Act.put, List.setIfInBounds_toArray, List.set_cons_zero, List.set_cons_succ]
  refine wpAnyH_take (i := 5) (v := ?_) rfl (by kernel_rfl) (by kernel_rfl) (by kernel_rfl) (fun _ _ _ h => h) (Or.inl ⟨by rfl, ?_⟩) (by assumption) ?_
  rotate_left
  · intro w hSw; (try dsimp only at hSw); go_simp; try with_reducible rfl
  try simp only [Act.put, List.setIfInBounds_toArray, List.set_cons_zero, List.set_cons_succ]
  refine wpAnyH_ready (rs := [6, 10]) (by kernel_rfl) (by simp) ?_
  refine AllReadyH.cons rfl (fun K hK => ?_) ?_
  · go_simp
    refine (HD.out _).mono ?_
    rintro e w1 ⟨rfl, hb⟩
    have HP1 := Lib.hid (HP0.out.drew.under hb)
    have HX1 := Lib.hid (HX0.out.drew.under hb)
    have HB1 := Lib.hid (grownBy_under (HBd0.out) hb)
    clear hb
    refine hK _ _ (nine HP1.out HX1.out) (fun hS2 => ?_)
    clear hK K
    refine wpAnyH_take (i := 7) (v := ?_) rfl (by kernel_rfl) (by kernel_rfl) (by kernel_rfl) (fun _ _ _ h => h) (Or.inl ⟨by rfl, ?_⟩) (by assumption) ?_
    rotate_left
    · intro w hSw; (try dsimp only at hSw); go_simp; try with_reducible rfl
    try simp only [Act.put, List.setIfInBounds_toArray, List.set_cons_zero, List.set_cons_succ]
    refine wpAnyH_take (i := 8) (v := ?_) rfl (by kernel_rfl) (by kernel_rfl) (by kernel_rfl) (fun _ _ _ h => h) (Or.inl ⟨by rfl, ?_⟩) (by assumption) ?_
    rotate_left
    · intro w hSw; (try dsimp only at hSw); go_simp; try with_reducible rfl
    try simp only [Act.put, List.setIfInBounds_toArray, List.set_cons_zero, List.set_cons_succ]
    refine wpAnyH_take (i := 9) (v := ?_) rfl (by kernel_rfl) (by kernel_rfl) (by kernel_rfl) (fun _ _ _ h => h) (Or.inl ⟨by rfl, ?_⟩) (by assumption) ?_
    rotate_left
    · intro w hSw; (try dsimp only at hSw); go_simp; try with_reducible rfl
    try simp only [Act.put, List.setIfInBounds_toArray, List.set_cons_zero, List.set_cons_succ]
    refine wpAnyH_ready (rs := [10]) (by kernel_rfl) (by simp) ?_
    refine AllReadyH.cons rfl (fun K hK => ?_) ?_
    · go_simp
      have HG2 : Hid (Blk (w1.alloc (.cells #[.bool false, .string { data := #[] }, .string { data := #[] }] 25)) w1.heap.size 25 #[.bool false, .string { data := #[] }, .string { data := #[] }]) := Blk.new w1 _ _
      have HP2 := Lib.hid (HP1.out.alloc (.cells #[.bool false, .string { data := #[] }, .string { data := #[] }] 25))
      have HX2 := Lib.hid (HX1.out.alloc (.cells #[.bool false, .string { data := #[] }, .string { data := #[] }] 25))
      have HB2 := Lib.hid (grownBy_trans HB1.out (World.grownBy_alloc w1 (.cells #[.bool false, .string { data := #[] }, .string { data := #[] }] 25) none))
      have hw1 := HB1.out.size
      have hp1 := HP1.out.lt
      refine hK _ _ (nine HP2.out HX2.out) (fun hS3 => ?_)
      clear hK K
      have r0 := HG2.out.cell (i := 0) rfl
      have r1 := HG2.out.cell (i := 1) rfl
      have r2 := HG2.out.cell (i := 2) rfl
      have fr := HG2.out.frozen
      refine wpAnyH_ready (rs := [11]) (by kernel_rfl) (by simp) ?_
      refine AllReadyH.cons rfl (fun K hK => ?_) ?_
      · go_simp
        have HG3 : Hid (Blk (w1.alloc (.cells #[.bool v0, .string v1, .string v2] 25)) w1.heap.size 25 #[.bool v0, .string v1, .string v2]) := Blk.new w1 _ _
        have HP3 := Lib.hid (HP1.out.alloc (.cells #[.bool v0, .string v1, .string v2] 25))
        have HX3 := Lib.hid (HX1.out.alloc (.cells #[.bool v0, .string v1, .string v2] 25))
        have HB3 := Lib.hid (grownBy_trans HB1.out (World.grownBy_alloc w1 (.cells #[.bool v0, .string v1, .string v2] 25) none))
        refine hK _ _ (nine HP3.out HX3.out) (fun hS4 => ?_)
        clear hK K
        refine wpAnyH_take (i := 12) (v := ?_) rfl (by kernel_rfl) (by kernel_rfl) (by kernel_rfl) (fun _ _ _ h => h) (Or.inl ⟨by rfl, ?_⟩) (by assumption) ?_
        rotate_left
        · intro w hSw; (try dsimp only at hSw); go_simp; try with_reducible rfl
        try simp only [Act.put, List.setIfInBounds_toArray, List.set_cons_zero, List.set_cons_succ]
        refine wpAnyH_done (by kernel_rfl) ?_ _
        go_wp2_with (fail)
        refine (mmust_bad E hE _).mono ?_
        rintro e w5 ⟨rfl, rfl⟩
        exact ⟨rfl, rfl, HB3.out⟩
      exact AllReadyH.nil
    exact AllReadyH.nil
  refine AllReadyH.cons rfl (fun K hK => ?_) ?_
  · go_simp
    have HG0 : Hid (Blk (W0.drew.alloc (.cells #[.bool false, .string { data := #[] }, .string { data := #[] }] 25)) W0.heap.size 25 #[.bool false, .string { data := #[] }, .string { data := #[] }]) := Blk.new W0.drew _ _
    have HPb := Lib.hid (HP0.out.drew.alloc (.cells #[.bool false, .string { data := #[] }, .string { data := #[] }] 25))
    have HXb := Lib.hid (HX0.out.drew.alloc (.cells #[.bool false, .string { data := #[] }, .string { data := #[] }] 25))
    have HBb := Lib.hid (grownBy_trans HBd0.out (World.grownBy_alloc W0.drew (.cells #[.bool false, .string { data := #[] }, .string { data := #[] }] 25) none))
    refine hK _ _ (nine HPb.out HXb.out) (fun hS2 => ?_)
    clear hK K
    refine wpAnyH_ready (rs := [6]) (by kernel_rfl) (by simp) ?_
    refine AllReadyH.cons rfl (fun K hK => ?_) ?_
    · go_simp
      refine (HD.out _).mono ?_
      rintro e w1 ⟨rfl, hb⟩
      have HG2 := Lib.hid (HG0.out.under hb)
      have HP2 := Lib.hid (HPb.out.under hb)
      have HX2 := Lib.hid (HXb.out.under hb)
      have HB2 := Lib.hid (grownBy_under HBb.out hb)
      clear hb
      have hp1 := HP2.out.lt
      refine hK _ _ (nine HP2.out HX2.out) (fun hS3 => ?_)
      clear hK K
      have r0 := HG2.out.cell (i := 0) rfl
      have r1 := HG2.out.cell (i := 1) rfl
      have r2 := HG2.out.cell (i := 2) rfl
      have fr := HG2.out.frozen
      refine wpAnyH_take (i := 7) (v := ?_) rfl (by kernel_rfl) (by kernel_rfl) (by kernel_rfl) (fun _ _ _ h => h) (Or.inl ⟨by rfl, ?_⟩) (by assumption) ?_
      rotate_left
      · intro w hSw; (try dsimp only at hSw); go_simp; try with_reducible rfl
      try simp only [Act.put, List.setIfInBounds_toArray, List.set_cons_zero, List.set_cons_succ]
      refine wpAnyH_take (i := 8) (v := ?_) rfl (by kernel_rfl) (by kernel_rfl) (by kernel_rfl) (fun _ _ _ h => h) (Or.inl ⟨by rfl, ?_⟩) (by assumption) ?_
      rotate_left
      · intro w hSw; (try dsimp only at hSw); go_simp; try with_reducible rfl
      try simp only [Act.put, List.setIfInBounds_toArray, List.set_cons_zero, List.set_cons_succ]
      refine wpAnyH_take (i := 9) (v := ?_) rfl (by kernel_rfl) (by kernel_rfl) (by kernel_rfl) (fun _ _ _ h => h) (Or.inl ⟨by rfl, ?_⟩) (by assumption) ?_
      rotate_left
      · intro w hSw; (try dsimp only at hSw); go_simp; try with_reducible rfl
      try simp only [Act.put, List.setIfInBounds_toArray, List.set_cons_zero, List.set_cons_succ]
      refine wpAnyH_ready (rs := [11]) (by kernel_rfl) (by simp) ?_
      refine AllReadyH.cons rfl (fun K hK => ?_) ?_
      · go_simp
        obtain ⟨HG3, HP3, HX3, HB3⟩ := box_fill (B := 0) v0 v1 v2 HG2.out HP2.out HX2.out (by have := HP2.out.lt; omega) (by omega) HB2.out (by omega)
        refine hK _ _ (nine HP3.out HX3.out) (fun hS4 => ?_)
        clear hK K
        refine wpAnyH_take (i := 12) (v := ?_) rfl (by kernel_rfl) (by kernel_rfl) (by kernel_rfl) (fun _ _ _ h => h) (Or.inl ⟨by rfl, ?_⟩) (by assumption) ?_
        rotate_left
        · intro w hSw; (try dsimp only at hSw); go_simp; try with_reducible rfl
        try simp only [Act.put, List.setIfInBounds_toArray, List.set_cons_zero, List.set_cons_succ]
        refine wpAnyH_done (by kernel_rfl) ?_ _
        go_wp2_with (fail)
        refine (mmust_bad E hE _).mono ?_
        rintro e w5 ⟨rfl, rfl⟩
        exact ⟨rfl, rfl, HB3.out⟩
      exact AllReadyH.nil
    exact AllReadyH.nil
  exact AllReadyH.nil

set_option maxRecDepth 100000 in
set_option maxHeartbeats 2000000 in
theorem load_ok (op xa xb : Int) (s : Bool) (nn d : ByteArray) (p : Nat) (c : Value) (a b : RV) (u k : Value) (lead at_ : Int) (done : Bool) (v0 : Bool) (v1 v2 : ByteArray)
    (HD : Hid (∀ w : World, Calls Tryz.prog 65 #[.agg #[.bool a.neg, .string a.n, .string a.d], .agg #[.bool s, .string nn, .string d]] w fun e w' => e = .returned (.tuple #[.agg #[.bool v0, .string v1, .string v2], .int .i64 0]) ∧ Below w.heap.size w w'))
    (w : World) (hp : Blk w p 63 (stC c a b u k lead at_ done)) :
    Calls Tryz.prog 38 #[.pointer (some ⟨p, 0, none⟩), .agg #[.int .i64 op, .int .i64 xa, .int .i64 xb, .bool s, .string nn, .string d]] w fun e w' => e = .returned (.tuple #[]) ∧ Blk w' p 63 (stC c a ⟨v0, v1, v2⟩ u k xb at_ done) ∧ w.grownBy w' (some p) := by
  have HP : Hid (Blk (w.alloc (.cells #[.int .i64 op, .int .i64 xa, .int .i64 xb, .bool s, .string nn, .string d] 40)) p 63 (stC c a b u k lead at_ done)) := hp.alloc _
  have HX : Hid (Blk (w.alloc (.cells #[.int .i64 op, .int .i64 xa, .int .i64 xb, .bool s, .string nn, .string d] 40)) w.heap.size 40 #[.int .i64 op, .int .i64 xa, .int .i64 xb, .bool s, .string nn, .string d]) := Blk.new _ _ _
  have HB : Hid (w.grownBy (w.alloc (.cells #[.int .i64 op, .int .i64 xa, .int .i64 xb, .bool s, .string nn, .string d] 40)) none) := World.grownBy_alloc _ _ _
  have hlt := hp.lt
  have hne : w.heap.size ≠ p := by omega
  clear hp
  go_enter Tryz.func38, Tryz.ntmps38
  go_wp2_with (fail)
  have hx0 := HX.out.lt
  generalize (w.alloc (.cells #[.int .i64 op, .int .i64 xa, .int .i64 xb, .bool s, .string nn, .string d] 40)) = W0 at *
  rename Hid (Blk W0 p _ _) => HP0
  rename Hid (Blk W0 w.heap.size _ _) => HX0
  rename Hid (w.grownBy W0 none) => HB0
  have HBd0 := Lib.hid (grownBy_drew HB0.out)
  refine wp_region_held_drew (S := fun w' => w'.cell? ⟨p, 1, none⟩ = some (.bool a.neg) ∧ w'.cell? ⟨p, 2, none⟩ = some (.string a.n) ∧ w'.cell? ⟨p, 3, none⟩ = some (.string a.d) ∧ w'.cell? ⟨p, 4, none⟩ = some (.bool b.neg) ∧ w'.cell? ⟨p, 5, none⟩ = some (.string b.n) ∧ w'.cell? ⟨p, 6, none⟩ = some (.string b.d) ∧ w'.cell? ⟨w.heap.size, 3, none⟩ = some (.bool s) ∧ w'.cell? ⟨w.heap.size, 4, none⟩ = some (.string nn) ∧ w'.cell? ⟨w.heap.size, 5, none⟩ = some (.string d)) (by kernel_rfl) (nine HP0.out.drew HX0.out.drew) (fun hS0 => ?_)
  refine wpAnyH_take (i := 0) (v := ?_) rfl (by kernel_rfl) (by kernel_rfl) (by kernel_rfl) (fun _ _ _ h => h) (Or.inl ⟨by rfl, ?_⟩) (by assumption) ?_
  rotate_left
  · intro w hSw; (try dsimp only at hSw); go_simp; try with_reducible rfl
  try simp only [Act.put, List.setIfInBounds_toArray, List.set_cons_zero, List.set_cons_succ]
  refine wpAnyH_take (i := 1) (v := ?_) rfl (by kernel_rfl) (by kernel_rfl) (by kernel_rfl) (fun _ _ _ h => h) (Or.inl ⟨by rfl, ?_⟩) (by assumption) ?_
  rotate_left
  · intro w hSw; (try dsimp only at hSw); go_simp; try with_reducible rfl
  try simp only [Act.put, List.setIfInBounds_toArray, List.set_cons_zero, List.set_cons_succ]
  refine wpAnyH_take (i := 2) (v := ?_) rfl (by kernel_rfl) (by kernel_rfl) (by kernel_rfl) (fun _ _ _ h => h) (Or.inl ⟨by rfl, ?_⟩) (by assumption) ?_
  rotate_left
  · intro w hSw; (try dsimp only at hSw); go_simp; try with_reducible rfl
  try simp only [Act.put, List.setIfInBounds_toArray, List.set_cons_zero, List.set_cons_succ]
  refine wpAnyH_take (i := 3) (v := ?_) rfl (by kernel_rfl) (by kernel_rfl) (by kernel_rfl) (fun _ _ _ h => h) (Or.inl ⟨by rfl, ?_⟩) (by assumption) ?_
  rotate_left
  · intro w hSw; (try dsimp only at hSw); go_simp; try with_reducible rfl
  try simp only [Act.put, List.setIfInBounds_toArray, List.set_cons_zero, List.set_cons_succ]
  refine wpAnyH_take (i := 4) (v := ?_) rfl (by kernel_rfl) (by kernel_rfl) (by kernel_rfl) (fun _ _ _ h => h) (Or.inl ⟨by rfl, ?_⟩) (by assumption) ?_
  rotate_left
  · intro w hSw; (try dsimp only at hSw); go_simp; try with_reducible rfl
  try simp only [Act.put, List.setIfInBounds_toArray, List.set_cons_zero, List.set_cons_succ]
  refine wpAnyH_take (i := 5) (v := ?_) rfl (by kernel_rfl) (by kernel_rfl) (by kernel_rfl) (fun _ _ _ h => h) (Or.inl ⟨by rfl, ?_⟩) (by assumption) ?_
  rotate_left
  · intro w hSw; (try dsimp only at hSw); go_simp; try with_reducible rfl
  try simp only [Act.put, List.setIfInBounds_toArray, List.set_cons_zero, List.set_cons_succ]
  refine wpAnyH_ready (rs := [6, 10]) (by kernel_rfl) (by simp) ?_
  refine AllReadyH.cons rfl (fun K hK => ?_) ?_
  · go_simp
    refine (HD.out _).mono ?_
    rintro e w1 ⟨rfl, hb⟩
    have HP1 := Lib.hid (HP0.out.drew.under hb)
    have HX1 := Lib.hid (HX0.out.drew.under hb)
    have HB1 := Lib.hid (grownBy_under (HBd0.out) hb)
    clear hb
    refine hK _ _ (nine HP1.out HX1.out) (fun hS2 => ?_)
    clear hK K
    refine wpAnyH_take (i := 7) (v := ?_) rfl (by kernel_rfl) (by kernel_rfl) (by kernel_rfl) (fun _ _ _ h => h) (Or.inl ⟨by rfl, ?_⟩) (by assumption) ?_
    rotate_left
    · intro w hSw; (try dsimp only at hSw); go_simp; try with_reducible rfl
    try simp only [Act.put, List.setIfInBounds_toArray, List.set_cons_zero, List.set_cons_succ]
    refine wpAnyH_take (i := 8) (v := ?_) rfl (by kernel_rfl) (by kernel_rfl) (by kernel_rfl) (fun _ _ _ h => h) (Or.inl ⟨by rfl, ?_⟩) (by assumption) ?_
    rotate_left
    · intro w hSw; (try dsimp only at hSw); go_simp; try with_reducible rfl
    try simp only [Act.put, List.setIfInBounds_toArray, List.set_cons_zero, List.set_cons_succ]
    refine wpAnyH_take (i := 9) (v := ?_) rfl (by kernel_rfl) (by kernel_rfl) (by kernel_rfl) (fun _ _ _ h => h) (Or.inl ⟨by rfl, ?_⟩) (by assumption) ?_
    rotate_left
    · intro w hSw; (try dsimp only at hSw); go_simp; try with_reducible rfl
    try simp only [Act.put, List.setIfInBounds_toArray, List.set_cons_zero, List.set_cons_succ]
    refine wpAnyH_ready (rs := [10]) (by kernel_rfl) (by simp) ?_
    refine AllReadyH.cons rfl (fun K hK => ?_) ?_
    · go_simp
      have HG2 : Hid (Blk (w1.alloc (.cells #[.bool false, .string { data := #[] }, .string { data := #[] }] 25)) w1.heap.size 25 #[.bool false, .string { data := #[] }, .string { data := #[] }]) := Blk.new w1 _ _
      have HP2 := Lib.hid (HP1.out.alloc (.cells #[.bool false, .string { data := #[] }, .string { data := #[] }] 25))
      have HX2 := Lib.hid (HX1.out.alloc (.cells #[.bool false, .string { data := #[] }, .string { data := #[] }] 25))
      have HB2 := Lib.hid (grownBy_trans HB1.out (World.grownBy_alloc w1 (.cells #[.bool false, .string { data := #[] }, .string { data := #[] }] 25) none))
      have hw1 := HB1.out.size
      have hp1 := HP1.out.lt
      refine hK _ _ (nine HP2.out HX2.out) (fun hS3 => ?_)
      clear hK K
      have r0 := HG2.out.cell (i := 0) rfl
      have r1 := HG2.out.cell (i := 1) rfl
      have r2 := HG2.out.cell (i := 2) rfl
      have fr := HG2.out.frozen
      refine wpAnyH_ready (rs := [11]) (by kernel_rfl) (by simp) ?_
      refine AllReadyH.cons rfl (fun K hK => ?_) ?_
      · go_simp
        have HG3 : Hid (Blk (w1.alloc (.cells #[.bool v0, .string v1, .string v2] 25)) w1.heap.size 25 #[.bool v0, .string v1, .string v2]) := Blk.new w1 _ _
        have HP3 := Lib.hid (HP1.out.alloc (.cells #[.bool v0, .string v1, .string v2] 25))
        have HX3 := Lib.hid (HX1.out.alloc (.cells #[.bool v0, .string v1, .string v2] 25))
        have HB3 := Lib.hid (grownBy_trans HB1.out (World.grownBy_alloc w1 (.cells #[.bool v0, .string v1, .string v2] 25) none))
        refine hK _ _ (nine HP3.out HX3.out) (fun hS4 => ?_)
        clear hK K
        refine wpAnyH_take (i := 12) (v := ?_) rfl (by kernel_rfl) (by kernel_rfl) (by kernel_rfl) (fun _ _ _ h => h) (Or.inl ⟨by rfl, ?_⟩) (by assumption) ?_
        rotate_left
        · intro w hSw; (try dsimp only at hSw); go_simp; try with_reducible rfl
        try simp only [Act.put, List.setIfInBounds_toArray, List.set_cons_zero, List.set_cons_succ]
        refine wpAnyH_done (by kernel_rfl) ?_ _
        have hgp : w1.heap.size ≠ p := by omega
        generalize w1.alloc (.cells #[.bool v0, .string v1, .string v2] 25) = W3 at *
        go_wp2_with (fail)
        refine (mmust_ok _).mono ?_
        rintro e w5 ⟨rfl, rfl⟩
        go_wp2_with (fail)
        have q4 := HP3.out.cell (i := 4) rfl
        have q5 := HP3.out.cell (i := 5) rfl
        have q6 := HP3.out.cell (i := 6) rfl
        have q9 := HP3.out.cell (i := 9) rfl
        have fp := HP3.out.frozen
        refine wp_region_held_drew (S := fun w' => w'.cell? ⟨w1.heap.size, 0, none⟩ = some (.bool v0) ∧ w'.cell? ⟨w1.heap.size, 1, none⟩ = some (.string v1) ∧ w'.cell? ⟨w1.heap.size, 2, none⟩ = some (.string v2) ∧ w'.cell? ⟨w.heap.size, 2, none⟩ = some (.int .i64 xb)) (by kernel_rfl) ⟨HG3.out.drew.cell (i := 0) rfl, HG3.out.drew.cell (i := 1) rfl, HG3.out.drew.cell (i := 2) rfl, HX3.out.drew.cell (i := 2) rfl⟩ (fun hS5 => ?_)
        refine wpAnyH_take (i := 0) (v := ?_) rfl (by kernel_rfl) (by kernel_rfl) (by kernel_rfl) (fun _ _ _ h => h) (Or.inl ⟨by rfl, ?_⟩) (by assumption) ?_
        rotate_left
        · intro w hSw; (try dsimp only at hSw); go_simp; try with_reducible rfl
        try simp only [Act.put, List.setIfInBounds_toArray, List.set_cons_zero, List.set_cons_succ]
        refine wpAnyH_take (i := 1) (v := ?_) rfl (by kernel_rfl) (by kernel_rfl) (by kernel_rfl) (fun _ _ _ h => h) (Or.inl ⟨by rfl, ?_⟩) (by assumption) ?_
        rotate_left
        · intro w hSw; (try dsimp only at hSw); go_simp; try with_reducible rfl
        try simp only [Act.put, List.setIfInBounds_toArray, List.set_cons_zero, List.set_cons_succ]
        refine wpAnyH_take (i := 2) (v := ?_) rfl (by kernel_rfl) (by kernel_rfl) (by kernel_rfl) (fun _ _ _ h => h) (Or.inl ⟨by rfl, ?_⟩) (by assumption) ?_
        rotate_left
        · intro w hSw; (try dsimp only at hSw); go_simp; try with_reducible rfl
        try simp only [Act.put, List.setIfInBounds_toArray, List.set_cons_zero, List.set_cons_succ]
        refine wpAnyH_take (i := 3) (v := ?_) rfl (by kernel_rfl) (by kernel_rfl) (by kernel_rfl) (fun _ _ _ h => h) (Or.inl ⟨by rfl, ?_⟩) (by assumption) ?_
        rotate_left
        · intro w hSw; (try dsimp only at hSw); go_simp; try with_reducible rfl
        try simp only [Act.put, List.setIfInBounds_toArray, List.set_cons_zero, List.set_cons_succ]
        refine wpAnyH_take (i := 4) (v := ?_) rfl (by kernel_rfl) (by kernel_rfl) (by kernel_rfl) (fun _ _ _ h => h) (Or.inl ⟨by rfl, ?_⟩) (by assumption) ?_
        rotate_left
        · intro w hSw; (try dsimp only at hSw); go_simp; try with_reducible rfl
        try simp only [Act.put, List.setIfInBounds_toArray, List.set_cons_zero, List.set_cons_succ]
        refine wpAnyH_take (i := 5) (v := ?_) rfl (by kernel_rfl) (by kernel_rfl) (by kernel_rfl) (fun _ _ _ h => h) (Or.inl ⟨by rfl, ?_⟩) (by assumption) ?_
        rotate_left
        · intro w hSw; (try dsimp only at hSw); go_simp; try with_reducible rfl
        try simp only [Act.put, List.setIfInBounds_toArray, List.set_cons_zero, List.set_cons_succ]
        refine wpAnyH_take (i := 6) (v := ?_) rfl (by kernel_rfl) (by kernel_rfl) (by kernel_rfl) (fun _ _ _ h => h) (Or.inl ⟨by rfl, ?_⟩) (by assumption) ?_
        rotate_left
        · intro w hSw; (try dsimp only at hSw); go_simp; try with_reducible rfl
        try simp only [Act.put, List.setIfInBounds_toArray, List.set_cons_zero, List.set_cons_succ]
        refine wpAnyH_ready (rs := [7]) (by kernel_rfl) (by simp) ?_
        refine AllReadyH.cons rfl (fun K hK => ?_) ?_
        · go_simp
          refine hK _ _ ⟨(((HG3.out.drew.other _ hgp).other _ hgp).other _ hgp).cell (i := 0) rfl, (((HG3.out.drew.other _ hgp).other _ hgp).other _ hgp).cell (i := 1) rfl, (((HG3.out.drew.other _ hgp).other _ hgp).other _ hgp).cell (i := 2) rfl, (((HX3.out.drew.other _ hne).other _ hne).other _ hne).cell (i := 2) rfl⟩ (fun hS6 => ?_)
          clear hK K
          have q9 := (((HP3.out.drew.set (i := 4) (.bool v0)).set (i := 5) (.string v1)).set (i := 6) (.string v2)).cell (i := 9) rfl
          have fq := (((HP3.out.drew.set (i := 4) (.bool v0)).set (i := 5) (.string v1)).set (i := 6) (.string v2)).frozen
          refine wpAnyH_take (i := 8) (v := ?_) rfl (by kernel_rfl) (by kernel_rfl) (by kernel_rfl) (fun _ _ _ h => h) (Or.inl ⟨by rfl, ?_⟩) (by assumption) ?_
          rotate_left
          · intro w hSw; (try dsimp only at hSw); go_simp; try with_reducible rfl
          try simp only [Act.put, List.setIfInBounds_toArray, List.set_cons_zero, List.set_cons_succ]
          refine wpAnyH_take (i := 9) (v := ?_) rfl (by kernel_rfl) (by kernel_rfl) (by kernel_rfl) (fun _ _ _ h => h) (Or.inl ⟨by rfl, ?_⟩) (by assumption) ?_
          rotate_left
          · intro w hSw; (try dsimp only at hSw); go_simp; try with_reducible rfl
          try simp only [Act.put, List.setIfInBounds_toArray, List.set_cons_zero, List.set_cons_succ]
          refine wpAnyH_ready (rs := [10]) (by kernel_rfl) (by simp) ?_
          refine AllReadyH.cons rfl (fun K hK => ?_) ?_
          · go_simp
            refine hK _ _ ⟨((((HG3.out.drew.other _ hgp).other _ hgp).other _ hgp).other _ hgp).cell (i := 0) rfl, ((((HG3.out.drew.other _ hgp).other _ hgp).other _ hgp).other _ hgp).cell (i := 1) rfl, ((((HG3.out.drew.other _ hgp).other _ hgp).other _ hgp).other _ hgp).cell (i := 2) rfl, ((((HX3.out.drew.other _ hne).other _ hne).other _ hne).other _ hne).cell (i := 2) rfl⟩ (fun hS7 => ?_)
            clear hK K
            refine wpAnyH_done (by kernel_rfl) ?_ _
            go_wp2
            go_end0
            refine ⟨rfl, ((((HP3.out.drew.set (i := 4) (.bool v0)).set (i := 5) (.string v1)).set (i := 6) (.string v2)).set (i := 9) (.int .i64 xb)), ?_⟩
            exact grownBy_trans (grownBy_trans (grownBy_trans (grownBy_trans (grownBy_drew (grownBy_some HB3.out p)) (grownBy_set _ _ _ _)) (grownBy_set _ _ _ _)) (grownBy_set _ _ _ _)) (grownBy_set _ _ _ _)
          exact AllReadyH.nil
        exact AllReadyH.nil
      exact AllReadyH.nil
    exact AllReadyH.nil
  refine AllReadyH.cons rfl (fun K hK => ?_) ?_
  · go_simp
    have HG0 : Hid (Blk (W0.drew.alloc (.cells #[.bool false, .string { data := #[] }, .string { data := #[] }] 25)) W0.heap.size 25 #[.bool false, .string { data := #[] }, .string { data := #[] }]) := Blk.new W0.drew _ _
    have HPb := Lib.hid (HP0.out.drew.alloc (.cells #[.bool false, .string { data := #[] }, .string { data := #[] }] 25))
    have HXb := Lib.hid (HX0.out.drew.alloc (.cells #[.bool false, .string { data := #[] }, .string { data := #[] }] 25))
    have HBb := Lib.hid (grownBy_trans HBd0.out (World.grownBy_alloc W0.drew (.cells #[.bool false, .string { data := #[] }, .string { data := #[] }] 25) none))
    refine hK _ _ (nine HPb.out HXb.out) (fun hS2 => ?_)
    clear hK K
    refine wpAnyH_ready (rs := [6]) (by kernel_rfl) (by simp) ?_
    refine AllReadyH.cons rfl (fun K hK => ?_) ?_
    · go_simp
      refine (HD.out _).mono ?_
      rintro e w1 ⟨rfl, hb⟩
      have HG2 := Lib.hid (HG0.out.under hb)
      have HP2 := Lib.hid (HPb.out.under hb)
      have HX2 := Lib.hid (HXb.out.under hb)
      have HB2 := Lib.hid (grownBy_under HBb.out hb)
      clear hb
      have hp1 := HP2.out.lt
      refine hK _ _ (nine HP2.out HX2.out) (fun hS3 => ?_)
      clear hK K
      have r0 := HG2.out.cell (i := 0) rfl
      have r1 := HG2.out.cell (i := 1) rfl
      have r2 := HG2.out.cell (i := 2) rfl
      have fr := HG2.out.frozen
      refine wpAnyH_take (i := 7) (v := ?_) rfl (by kernel_rfl) (by kernel_rfl) (by kernel_rfl) (fun _ _ _ h => h) (Or.inl ⟨by rfl, ?_⟩) (by assumption) ?_
      rotate_left
      · intro w hSw; (try dsimp only at hSw); go_simp; try with_reducible rfl
      try simp only [Act.put, List.setIfInBounds_toArray, List.set_cons_zero, List.set_cons_succ]
      refine wpAnyH_take (i := 8) (v := ?_) rfl (by kernel_rfl) (by kernel_rfl) (by kernel_rfl) (fun _ _ _ h => h) (Or.inl ⟨by rfl, ?_⟩) (by assumption) ?_
      rotate_left
      · intro w hSw; (try dsimp only at hSw); go_simp; try with_reducible rfl
      try simp only [Act.put, List.setIfInBounds_toArray, List.set_cons_zero, List.set_cons_succ]
      refine wpAnyH_take (i := 9) (v := ?_) rfl (by kernel_rfl) (by kernel_rfl) (by kernel_rfl) (fun _ _ _ h => h) (Or.inl ⟨by rfl, ?_⟩) (by assumption) ?_
      rotate_left
      · intro w hSw; (try dsimp only at hSw); go_simp; try with_reducible rfl
      try simp only [Act.put, List.setIfInBounds_toArray, List.set_cons_zero, List.set_cons_succ]
      refine wpAnyH_ready (rs := [11]) (by kernel_rfl) (by simp) ?_
      refine AllReadyH.cons rfl (fun K hK => ?_) ?_
      · go_simp
        obtain ⟨HG3, HP3, HX3, HB3⟩ := box_fill (B := 0) v0 v1 v2 HG2.out HP2.out HX2.out (by have := HP2.out.lt; omega) (by omega) HB2.out (by omega)
        refine hK _ _ (nine HP3.out HX3.out) (fun hS4 => ?_)
        clear hK K
        refine wpAnyH_take (i := 12) (v := ?_) rfl (by kernel_rfl) (by kernel_rfl) (by kernel_rfl) (fun _ _ _ h => h) (Or.inl ⟨by rfl, ?_⟩) (by assumption) ?_
        rotate_left
        · intro w hSw; (try dsimp only at hSw); go_simp; try with_reducible rfl
        try simp only [Act.put, List.setIfInBounds_toArray, List.set_cons_zero, List.set_cons_succ]
        refine wpAnyH_done (by kernel_rfl) ?_ _
        have hgp : W0.heap.size ≠ p := by omega
        generalize ((w1.setCell ⟨W0.heap.size, 0, none⟩ (.bool v0)).setCell ⟨W0.heap.size, 1, none⟩ (.string v1)).setCell ⟨W0.heap.size, 2, none⟩ (.string v2) = W3 at *
        go_wp2_with (fail)
        refine (mmust_ok _).mono ?_
        rintro e w5 ⟨rfl, rfl⟩
        go_wp2_with (fail)
        have q4 := HP3.out.cell (i := 4) rfl
        have q5 := HP3.out.cell (i := 5) rfl
        have q6 := HP3.out.cell (i := 6) rfl
        have q9 := HP3.out.cell (i := 9) rfl
        have fp := HP3.out.frozen
        refine wp_region_held_drew (S := fun w' => w'.cell? ⟨W0.heap.size, 0, none⟩ = some (.bool v0) ∧ w'.cell? ⟨W0.heap.size, 1, none⟩ = some (.string v1) ∧ w'.cell? ⟨W0.heap.size, 2, none⟩ = some (.string v2) ∧ w'.cell? ⟨w.heap.size, 2, none⟩ = some (.int .i64 xb)) (by kernel_rfl) ⟨HG3.out.drew.cell (i := 0) rfl, HG3.out.drew.cell (i := 1) rfl, HG3.out.drew.cell (i := 2) rfl, HX3.out.drew.cell (i := 2) rfl⟩ (fun hS5 => ?_)
        refine wpAnyH_take (i := 0) (v := ?_) rfl (by kernel_rfl) (by kernel_rfl) (by kernel_rfl) (fun _ _ _ h => h) (Or.inl ⟨by rfl, ?_⟩) (by assumption) ?_
        rotate_left
        · intro w hSw; (try dsimp only at hSw); go_simp; try with_reducible rfl
        try simp only [Act.put, List.setIfInBounds_toArray, List.set_cons_zero, List.set_cons_succ]
        refine wpAnyH_take (i := 1) (v := ?_) rfl (by kernel_rfl) (by kernel_rfl) (by kernel_rfl) (fun _ _ _ h => h) (Or.inl ⟨by rfl, ?_⟩) (by assumption) ?_
        rotate_left
        · intro w hSw; (try dsimp only at hSw); go_simp; try with_reducible rfl
        try simp only [Act.put, List.setIfInBounds_toArray, List.set_cons_zero, List.set_cons_succ]
        refine wpAnyH_take (i := 2) (v := ?_) rfl (by kernel_rfl) (by kernel_rfl) (by kernel_rfl) (fun _ _ _ h => h) (Or.inl ⟨by rfl, ?_⟩) (by assumption) ?_
        rotate_left
        · intro w hSw; (try dsimp only at hSw); go_simp; try with_reducible rfl
        try simp only [Act.put, List.setIfInBounds_toArray, List.set_cons_zero, List.set_cons_succ]
        refine wpAnyH_take (i := 3) (v := ?_) rfl (by kernel_rfl) (by kernel_rfl) (by kernel_rfl) (fun _ _ _ h => h) (Or.inl ⟨by rfl, ?_⟩) (by assumption) ?_
        rotate_left
        · intro w hSw; (try dsimp only at hSw); go_simp; try with_reducible rfl
        try simp only [Act.put, List.setIfInBounds_toArray, List.set_cons_zero, List.set_cons_succ]
        refine wpAnyH_take (i := 4) (v := ?_) rfl (by kernel_rfl) (by kernel_rfl) (by kernel_rfl) (fun _ _ _ h => h) (Or.inl ⟨by rfl, ?_⟩) (by assumption) ?_
        rotate_left
        · intro w hSw; (try dsimp only at hSw); go_simp; try with_reducible rfl
        try simp only [Act.put, List.setIfInBounds_toArray, List.set_cons_zero, List.set_cons_succ]
        refine wpAnyH_take (i := 5) (v := ?_) rfl (by kernel_rfl) (by kernel_rfl) (by kernel_rfl) (fun _ _ _ h => h) (Or.inl ⟨by rfl, ?_⟩) (by assumption) ?_
        rotate_left
        · intro w hSw; (try dsimp only at hSw); go_simp; try with_reducible rfl
        try simp only [Act.put, List.setIfInBounds_toArray, List.set_cons_zero, List.set_cons_succ]
        refine wpAnyH_take (i := 6) (v := ?_) rfl (by kernel_rfl) (by kernel_rfl) (by kernel_rfl) (fun _ _ _ h => h) (Or.inl ⟨by rfl, ?_⟩) (by assumption) ?_
        rotate_left
        · intro w hSw; (try dsimp only at hSw); go_simp; try with_reducible rfl
        try simp only [Act.put, List.setIfInBounds_toArray, List.set_cons_zero, List.set_cons_succ]
        refine wpAnyH_ready (rs := [7]) (by kernel_rfl) (by simp) ?_
        refine AllReadyH.cons rfl (fun K hK => ?_) ?_
        · go_simp
          refine hK _ _ ⟨(((HG3.out.drew.other _ hgp).other _ hgp).other _ hgp).cell (i := 0) rfl, (((HG3.out.drew.other _ hgp).other _ hgp).other _ hgp).cell (i := 1) rfl, (((HG3.out.drew.other _ hgp).other _ hgp).other _ hgp).cell (i := 2) rfl, (((HX3.out.drew.other _ hne).other _ hne).other _ hne).cell (i := 2) rfl⟩ (fun hS6 => ?_)
          clear hK K
          have q9 := (((HP3.out.drew.set (i := 4) (.bool v0)).set (i := 5) (.string v1)).set (i := 6) (.string v2)).cell (i := 9) rfl
          have fq := (((HP3.out.drew.set (i := 4) (.bool v0)).set (i := 5) (.string v1)).set (i := 6) (.string v2)).frozen
          refine wpAnyH_take (i := 8) (v := ?_) rfl (by kernel_rfl) (by kernel_rfl) (by kernel_rfl) (fun _ _ _ h => h) (Or.inl ⟨by rfl, ?_⟩) (by assumption) ?_
          rotate_left
          · intro w hSw; (try dsimp only at hSw); go_simp; try with_reducible rfl
          try simp only [Act.put, List.setIfInBounds_toArray, List.set_cons_zero, List.set_cons_succ]
          refine wpAnyH_take (i := 9) (v := ?_) rfl (by kernel_rfl) (by kernel_rfl) (by kernel_rfl) (fun _ _ _ h => h) (Or.inl ⟨by rfl, ?_⟩) (by assumption) ?_
          rotate_left
          · intro w hSw; (try dsimp only at hSw); go_simp; try with_reducible rfl
          try simp only [Act.put, List.setIfInBounds_toArray, List.set_cons_zero, List.set_cons_succ]
          refine wpAnyH_ready (rs := [10]) (by kernel_rfl) (by simp) ?_
          refine AllReadyH.cons rfl (fun K hK => ?_) ?_
          · go_simp
            refine hK _ _ ⟨((((HG3.out.drew.other _ hgp).other _ hgp).other _ hgp).other _ hgp).cell (i := 0) rfl, ((((HG3.out.drew.other _ hgp).other _ hgp).other _ hgp).other _ hgp).cell (i := 1) rfl, ((((HG3.out.drew.other _ hgp).other _ hgp).other _ hgp).other _ hgp).cell (i := 2) rfl, ((((HX3.out.drew.other _ hne).other _ hne).other _ hne).other _ hne).cell (i := 2) rfl⟩ (fun hS7 => ?_)
            clear hK K
            refine wpAnyH_done (by kernel_rfl) ?_ _
            go_wp2
            go_end0
            refine ⟨rfl, ((((HP3.out.drew.set (i := 4) (.bool v0)).set (i := 5) (.string v1)).set (i := 6) (.string v2)).set (i := 9) (.int .i64 xb)), ?_⟩
            exact grownBy_trans (grownBy_trans (grownBy_trans (grownBy_trans (grownBy_drew (grownBy_some HB3.out p)) (grownBy_set _ _ _ _)) (grownBy_set _ _ _ _)) (grownBy_set _ _ _ _)) (grownBy_set _ _ _ _)
          exact AllReadyH.nil
        exact AllReadyH.nil
      exact AllReadyH.nil
    exact AllReadyH.nil
  exact AllReadyH.nil

end Go.Proofs.YteggbpaljmopoaaGreat
/- machine: (*state).use, run, end, fail. PRINTED BY wip/gen_use.py -/
namespace Go.Proofs.YteggbpaljmopoaaGreat
open Go.RowKit BF

theorem infoUse : (Tryz.prog.info? 58).map (fun i => (i.zero, i.size, i.bytes)) = some (some (.agg #[.int .i64 0, .bool false, .string { data := #[] }, .string { data := #[] }, .bool false, .bool false]), 6, 56) := by kernel_rfl
theorem infoWork : (Tryz.prog.info? 60).map (fun i => (i.zero, i.size, i.bytes)) = some (some (.agg #[.int .i64 0, .int .i64 0]), 2, 16) := by kernel_rfl
theorem slice_block {g n cap : Nat} : Value.ownBlock (.slice (some ⟨g, 0, none⟩) n cap) = some g := rfl
theorem rows_ne {u k : Value} (h : u.ownBlock = none ∨ u.ownBlock ≠ k.ownBlock) : k.ownBlock = none ∨ k.ownBlock ≠ u.ownBlock := by
  rcases h with h | h
  · rw [h]
    cases k.ownBlock <;> simp
  · exact .inr (Ne.symm h)
/-- behind an append to one of the two rows -/
def GrowPost (w : World) (B p : Nat) (T1 T2 : TypeId) (z1 z2 : Nat) (st : Value → Array Value) (n m : Nat) (us ws news : List Value) (k : Value) (e : Ending) (w' : World) : Prop :=
  e = .returned (.tuple #[]) ∧ ∃ u', Blk w' p 63 (st u') ∧ w'.ownsRow B T1 z1 u' (n + 1) (us ++ news) ∧ w'.ownsRow B T2 z2 k m ws ∧ u'.ownBlock ≠ k.ownBlock ∧ Side B p w w'
theorem ne_row {w : World} {B p n z : Nat} {T : TypeId} {u : Value} {us : List Value} (h : w.ownsRow B T z u n us) (hp : p < B) : some p ≠ u.ownBlock := fun he => by
  have := (h.lt p he.symm).1; omega
theorem row_low {w : World} {B n z : Nat} {T : TypeId} {u : Value} {us : List Value} (h : w.ownsRow B T z u n us) : ∀ k, u.ownBlock = some k → B ≤ k := fun k hk => (h.lt k hk).1
theorem rows_apart {w : World} {B m z g H : Nat} {T : TypeId} {u k : Value} {ws : List Value} (hk : w.ownsRow B T z k m ws) (hH : w.heap.size = H) (ha : u.ownBlock = none ∨ u.ownBlock ≠ k.ownBlock) (hat : u.ownBlock = some g ∨ g = H) : some g ≠ k.ownBlock := by
  rcases hat with h | rfl
  · rcases ha with h2 | h2
    · rw [h] at h2; cases h2
    · rwa [h] at h2
  · intro he
    have := (hk.lt _ he.symm).2
    omega
set_option maxRecDepth 100000 in
set_option maxHeartbeats 2000000 in
theorem use_bad (op xa xb : Int) (s : Bool) (nn d : ByteArray) (p : Nat) (c : Value) (a b : RV) (u k : Value) (lead at_ : Int) (done : Bool) (E : Int) (hE : (E != 0) = true) (v0 : Bool) (v1 v2 : ByteArray)
    (HD : Hid (∀ w : World, Calls Tryz.prog 66 #[.agg #[.bool s, .string nn, .string d], .agg #[.bool b.neg, .string b.n, .string b.d]] w fun e w' => e = .returned (.tuple #[.agg #[.bool v0, .string v1, .string v2], .int .i64 E]) ∧ Below w.heap.size w w'))
    (w : World) (hp : Blk w p 63 (stC c a b u k lead at_ done)) :
    Calls Tryz.prog 39 #[.pointer (some ⟨p, 0, none⟩), .agg #[.int .i64 op, .int .i64 xa, .int .i64 xb, .bool s, .string nn, .string d]] w fun e w' => e = .panicked (errv E) ∧ w.grownBy w' none := by
  have HP : Hid (Blk (w.alloc (.cells #[.int .i64 op, .int .i64 xa, .int .i64 xb, .bool s, .string nn, .string d] 40)) p 63 (stC c a b u k lead at_ done)) := hp.alloc _
  have HX : Hid (Blk (w.alloc (.cells #[.int .i64 op, .int .i64 xa, .int .i64 xb, .bool s, .string nn, .string d] 40)) w.heap.size 40 #[.int .i64 op, .int .i64 xa, .int .i64 xb, .bool s, .string nn, .string d]) := Blk.new _ _ _
  have HB : Hid (w.grownBy (w.alloc (.cells #[.int .i64 op, .int .i64 xa, .int .i64 xb, .bool s, .string nn, .string d] 40)) none) := World.grownBy_alloc _ _ _
  have hlt := hp.lt
  have hne : w.heap.size ≠ p := by omega
  clear hp
  go_enter Tryz.func39, Tryz.ntmps39
  go_wp2_with (fail)
  have hx0 := HX.out.lt
  generalize (w.alloc (.cells #[.int .i64 op, .int .i64 xa, .int .i64 xb, .bool s, .string nn, .string d] 40)) = W0 at *
  rename Hid (Blk W0 p _ _) => HP0
  rename Hid (Blk W0 w.heap.size _ _) => HX0
  rename Hid (w.grownBy W0 none) => HB0
  have HBd0 := Lib.hid (grownBy_drew HB0.out)
  refine wp_region_held_drew (S := fun w' => w'.cell? ⟨p, 1, none⟩ = some (.bool a.neg) ∧ w'.cell? ⟨p, 2, none⟩ = some (.string a.n) ∧ w'.cell? ⟨p, 3, none⟩ = some (.string a.d) ∧ w'.cell? ⟨p, 4, none⟩ = some (.bool b.neg) ∧ w'.cell? ⟨p, 5, none⟩ = some (.string b.n) ∧ w'.cell? ⟨p, 6, none⟩ = some (.string b.d) ∧ w'.cell? ⟨w.heap.size, 3, none⟩ = some (.bool s) ∧ w'.cell? ⟨w.heap.size, 4, none⟩ = some (.string nn) ∧ w'.cell? ⟨w.heap.size, 5, none⟩ = some (.string d)) (by kernel_rfl) (nine HP0.out.drew HX0.out.drew) (fun hS0 => ?_)
  refine wpAnyH_take (i := 0) (v := ?_) rfl (by kernel_rfl) (by kernel_rfl) (by kernel_rfl) (fun _ _ _ h => h) (Or.inl ⟨by rfl, ?_⟩) (by assumption) ?_
  rotate_left
  · intro w hSw; (try dsimp only at hSw); go_simp; try with_reducible rfl
  try simp only [Act.put, List.setIfInBounds_toArray, List.set_cons_zero, List.set_cons_succ]
  refine wpAnyH_take (i := 1) (v := ?_) rfl (by kernel_rfl) (by kernel_rfl) (by kernel_rfl) (fun _ _ _ h => h) (Or.inl ⟨by rfl, ?_⟩) (by assumption) ?_
  rotate_left
  · intro w hSw; (try dsimp only at hSw); go_simp; try with_reducible rfl
  try simp only [Act.put, List.setIfInBounds_toArray, List.set_cons_zero, List.set_cons_succ]
  refine wpAnyH_take (i := 2) (v := ?_) rfl (by kernel_rfl) (by kernel_rfl) (by kernel_rfl) (fun _ _ _ h => h) (Or.inl ⟨by rfl, ?_⟩) (by assumption) ?_
  rotate_left
  · intro w hSw; (try dsimp only at hSw); go_simp; try with_reducible rfl
  try simp only [Act.put, List.setIfInBounds_toArray, List.set_cons_zero, List.set_cons_succ]
  refine wpAnyH_take (i := 3) (v := ?_) rfl (by kernel_rfl) (by kernel_rfl) (by kernel_rfl) (fun _ _ _ h => h) (Or.inl ⟨by rfl, ?_⟩) (by assumption) ?_
  rotate_left
  · intro w hSw; (try dsimp only at hSw); go_simp; try with_reducible rfl
  try simp only [Act.put, List.setIfInBounds_toArray, List.set_cons_zero, List.set_cons_succ]
  refine wpAnyH_take (i := 4) (v := ?_) rfl (by kernel_rfl) (by kernel_rfl) (by kernel_rfl) (fun _ _ _ h => h) (Or.inl ⟨by rfl, ?_⟩) (by assumption) ?_
  rotate_left
  · intro w hSw; (try dsimp only at hSw); go_simp; try with_reducible rfl
  try simp only [Act.put, List.setIfInBounds_toArray, List.set_cons_zero, List.set_cons_succ]
  refine wpAnyH_take (i := 5) (v := ?_) rfl (by kernel_rfl) (by kernel_rfl) (by kernel_rfl) (fun _ _ _ h => h) (Or.inl ⟨by rfl, ?_⟩) (by assumption) ?_
  rotate_left
  · intro w hSw; (try dsimp only at hSw); go_simp; try with_reducible rfl
  try simp only [Act.put, List.setIfInBounds_toArray, List.set_cons_zero, List.set_cons_succ]
  refine wpAnyH_ready (rs := [6, 10]) (by kernel_rfl) (by simp) ?_
  refine AllReadyH.cons rfl (fun K hK => ?_) ?_
  · go_simp
    refine (HD.out _).mono ?_
    rintro e w1 ⟨rfl, hb⟩
    have HP1 := Lib.hid (HP0.out.drew.under hb)
    have HX1 := Lib.hid (HX0.out.drew.under hb)
    have HB1 := Lib.hid (grownBy_under (HBd0.out) hb)
    clear hb
    refine hK _ _ (nine HP1.out HX1.out) (fun hS2 => ?_)
    clear hK K
    refine wpAnyH_take (i := 7) (v := ?_) rfl (by kernel_rfl) (by kernel_rfl) (by kernel_rfl) (fun _ _ _ h => h) (Or.inl ⟨by rfl, ?_⟩) (by assumption) ?_
    rotate_left
    · intro w hSw; (try dsimp only at hSw); go_simp; try with_reducible rfl
    try simp only [Act.put, List.setIfInBounds_toArray, List.set_cons_zero, List.set_cons_succ]
    refine wpAnyH_take (i := 8) (v := ?_) rfl (by kernel_rfl) (by kernel_rfl) (by kernel_rfl) (fun _ _ _ h => h) (Or.inl ⟨by rfl, ?_⟩) (by assumption) ?_
    rotate_left
    · intro w hSw; (try dsimp only at hSw); go_simp; try with_reducible rfl
    try simp only [Act.put, List.setIfInBounds_toArray, List.set_cons_zero, List.set_cons_succ]
    refine wpAnyH_take (i := 9) (v := ?_) rfl (by kernel_rfl) (by kernel_rfl) (by kernel_rfl) (fun _ _ _ h => h) (Or.inl ⟨by rfl, ?_⟩) (by assumption) ?_
    rotate_left
    · intro w hSw; (try dsimp only at hSw); go_simp; try with_reducible rfl
    try simp only [Act.put, List.setIfInBounds_toArray, List.set_cons_zero, List.set_cons_succ]
    refine wpAnyH_ready (rs := [10]) (by kernel_rfl) (by simp) ?_
    refine AllReadyH.cons rfl (fun K hK => ?_) ?_
    · go_simp
      have HG2 : Hid (Blk (w1.alloc (.cells #[.bool false, .string { data := #[] }, .string { data := #[] }] 25)) w1.heap.size 25 #[.bool false, .string { data := #[] }, .string { data := #[] }]) := Blk.new w1 _ _
      have HP2 := Lib.hid (HP1.out.alloc (.cells #[.bool false, .string { data := #[] }, .string { data := #[] }] 25))
      have HX2 := Lib.hid (HX1.out.alloc (.cells #[.bool false, .string { data := #[] }, .string { data := #[] }] 25))
      have HB2 := Lib.hid (grownBy_trans HB1.out (World.grownBy_alloc w1 (.cells #[.bool false, .string { data := #[] }, .string { data := #[] }] 25) none))
      have hw1 := HB1.out.size
      have hp1 := HP1.out.lt
      refine hK _ _ (nine HP2.out HX2.out) (fun hS3 => ?_)
      clear hK K
      have r0 := HG2.out.cell (i := 0) rfl
      have r1 := HG2.out.cell (i := 1) rfl
      have r2 := HG2.out.cell (i := 2) rfl
      have fr := HG2.out.frozen
      refine wpAnyH_ready (rs := [11]) (by kernel_rfl) (by simp) ?_
      refine AllReadyH.cons rfl (fun K hK => ?_) ?_
      · go_simp
        have HG3 : Hid (Blk (w1.alloc (.cells #[.bool v0, .string v1, .string v2] 25)) w1.heap.size 25 #[.bool v0, .string v1, .string v2]) := Blk.new w1 _ _
        have HP3 := Lib.hid (HP1.out.alloc (.cells #[.bool v0, .string v1, .string v2] 25))
        have HX3 := Lib.hid (HX1.out.alloc (.cells #[.bool v0, .string v1, .string v2] 25))
        have HB3 := Lib.hid (grownBy_trans HB1.out (World.grownBy_alloc w1 (.cells #[.bool v0, .string v1, .string v2] 25) none))
        refine hK _ _ (nine HP3.out HX3.out) (fun hS4 => ?_)
        clear hK K
        refine wpAnyH_take (i := 12) (v := ?_) rfl (by kernel_rfl) (by kernel_rfl) (by kernel_rfl) (fun _ _ _ h => h) (Or.inl ⟨by rfl, ?_⟩) (by assumption) ?_
        rotate_left
        · intro w hSw; (try dsimp only at hSw); go_simp; try with_reducible rfl
        try simp only [Act.put, List.setIfInBounds_toArray, List.set_cons_zero, List.set_cons_succ]
        refine wpAnyH_done (by kernel_rfl) ?_ _
        go_wp2_with (fail)
        refine (mmust_bad E hE _).mono ?_
        rintro e w5 ⟨rfl, rfl⟩
        exact ⟨rfl, rfl, HB3.out⟩
      exact AllReadyH.nil
    exact AllReadyH.nil
  refine AllReadyH.cons rfl (fun K hK => ?_) ?_
  · go_simp
    have HG0 : Hid (Blk (W0.drew.alloc (.cells #[.bool false, .string { data := #[] }, .string { data := #[] }] 25)) W0.heap.size 25 #[.bool false, .string { data := #[] }, .string { data := #[] }]) := Blk.new W0.drew _ _
    have HPb := Lib.hid (HP0.out.drew.alloc (.cells #[.bool false, .string { data := #[] }, .string { data := #[] }] 25))
    have HXb := Lib.hid (HX0.out.drew.alloc (.cells #[.bool false, .string { data := #[] }, .string { data := #[] }] 25))
    have HBb := Lib.hid (grownBy_trans HBd0.out (World.grownBy_alloc W0.drew (.cells #[.bool false, .string { data := #[] }, .string { data := #[] }] 25) none))
    refine hK _ _ (nine HPb.out HXb.out) (fun hS2 => ?_)
    clear hK K
    refine wpAnyH_ready (rs := [6]) (by kernel_rfl) (by simp) ?_
    refine AllReadyH.cons rfl (fun K hK => ?_) ?_
    · go_simp
      refine (HD.out _).mono ?_
      rintro e w1 ⟨rfl, hb⟩
      have HG2 := Lib.hid (HG0.out.under hb)
      have HP2 := Lib.hid (HPb.out.under hb)
      have HX2 := Lib.hid (HXb.out.under hb)
      have HB2 := Lib.hid (grownBy_under HBb.out hb)
      clear hb
      have hp1 := HP2.out.lt
      refine hK _ _ (nine HP2.out HX2.out) (fun hS3 => ?_)
      clear hK K
      have r0 := HG2.out.cell (i := 0) rfl
      have r1 := HG2.out.cell (i := 1) rfl
      have r2 := HG2.out.cell (i := 2) rfl
      have fr := HG2.out.frozen
      refine wpAnyH_take (i := 7) (v := ?_) rfl (by kernel_rfl) (by kernel_rfl) (by kernel_rfl) (fun _ _ _ h => h) (Or.inl ⟨by rfl, ?_⟩) (by assumption) ?_
      rotate_left
      · intro w hSw; (try dsimp only at hSw); go_simp; try with_reducible rfl
      try simp only [Act.put, List.setIfInBounds_toArray, List.set_cons_zero, List.set_cons_succ]
      refine wpAnyH_take (i := 8) (v := ?_) rfl (by kernel_rfl) (by kernel_rfl) (by kernel_rfl) (fun _ _ _ h => h) (Or.inl ⟨by rfl, ?_⟩) (by assumption) ?_
      rotate_left
      · intro w hSw; (try dsimp only at hSw); go_simp; try with_reducible rfl
      try simp only [Act.put, List.setIfInBounds_toArray, List.set_cons_zero, List.set_cons_succ]
      refine wpAnyH_take (i := 9) (v := ?_) rfl (by kernel_rfl) (by kernel_rfl) (by kernel_rfl) (fun _ _ _ h => h) (Or.inl ⟨by rfl, ?_⟩) (by assumption) ?_
      rotate_left
      · intro w hSw; (try dsimp only at hSw); go_simp; try with_reducible rfl
      try simp only [Act.put, List.setIfInBounds_toArray, List.set_cons_zero, List.set_cons_succ]
      refine wpAnyH_ready (rs := [11]) (by kernel_rfl) (by simp) ?_
      refine AllReadyH.cons rfl (fun K hK => ?_) ?_
      · go_simp
        obtain ⟨HG3, HP3, HX3, HB3⟩ := box_fill (B := 0) v0 v1 v2 HG2.out HP2.out HX2.out (by have := HP2.out.lt; omega) (by omega) HB2.out (by omega)
        refine hK _ _ (nine HP3.out HX3.out) (fun hS4 => ?_)
        clear hK K
        refine wpAnyH_take (i := 12) (v := ?_) rfl (by kernel_rfl) (by kernel_rfl) (by kernel_rfl) (fun _ _ _ h => h) (Or.inl ⟨by rfl, ?_⟩) (by assumption) ?_
        rotate_left
        · intro w hSw; (try dsimp only at hSw); go_simp; try with_reducible rfl
        try simp only [Act.put, List.setIfInBounds_toArray, List.set_cons_zero, List.set_cons_succ]
        refine wpAnyH_done (by kernel_rfl) ?_ _
        go_wp2_with (fail)
        refine (mmust_bad E hE _).mono ?_
        rintro e w5 ⟨rfl, rfl⟩
        exact ⟨rfl, rfl, HB3.out⟩
      exact AllReadyH.nil
    exact AllReadyH.nil
  exact AllReadyH.nil

set_option maxRecDepth 100000 in
set_option maxHeartbeats 2000000 in
theorem use_ok (op xa xb : Int) (s : Bool) (nn d : ByteArray) (p : Nat) (c : Value) (a b : RV) (u k : Value) (lead at_ : Int) (done : Bool) (v0 : Bool) (v1 v2 : ByteArray)
    (HD : Hid (∀ w : World, Calls Tryz.prog 66 #[.agg #[.bool s, .string nn, .string d], .agg #[.bool b.neg, .string b.n, .string b.d]] w fun e w' => e = .returned (.tuple #[.agg #[.bool v0, .string v1, .string v2], .int .i64 0]) ∧ Below w.heap.size w w'))
    (w : World) (hp : Blk w p 63 (stC c a b u k lead at_ done)) (B n m : Nat) (us ws : List Value) (hu : w.ownsRow B 58 6 u n us) (hk : w.ownsRow B 60 2 k m ws) (ha : u.ownBlock = none ∨ u.ownBlock ≠ k.ownBlock) (hpB : p < B) (hB : B ≤ w.heap.size) (hn : n ≤ 1000) :
    Calls Tryz.prog 39 #[.pointer (some ⟨p, 0, none⟩), .agg #[.int .i64 op, .int .i64 xa, .int .i64 xb, .bool s, .string nn, .string d]] w (GrowPost w B p 58 60 6 2 (fun u' => stC c a b u' k lead at_ done) n m us ws [.int .i64 xa, .bool v0, .string v1, .string v2, .bool (op == 5), .bool (xb == 1)] k) := by
  have HU := Lib.hid hu
  have HK := Lib.hid hk
  have HAP := Lib.hid ha
  clear hu hk ha
  obtain ⟨iu, hi, hz0, hz1, hz2⟩ := info_parts infoUse
  have HI := Lib.hid hi
  have HZ0 := Lib.hid hz0
  have HZ1 := Lib.hid hz1
  have HZ2 := Lib.hid hz2
  clear hi hz0 hz1 hz2
  have HP : Hid (Blk (w.alloc (.cells #[.int .i64 op, .int .i64 xa, .int .i64 xb, .bool s, .string nn, .string d] 40)) p 63 (stC c a b u k lead at_ done)) := hp.alloc _
  have HX : Hid (Blk (w.alloc (.cells #[.int .i64 op, .int .i64 xa, .int .i64 xb, .bool s, .string nn, .string d] 40)) w.heap.size 40 #[.int .i64 op, .int .i64 xa, .int .i64 xb, .bool s, .string nn, .string d]) := Blk.new _ _ _
  have HB : Hid (w.grownBy (w.alloc (.cells #[.int .i64 op, .int .i64 xa, .int .i64 xb, .bool s, .string nn, .string d] 40)) none) := World.grownBy_alloc _ _ _
  have hlt := hp.lt
  have hne : w.heap.size ≠ p := by omega
  clear hp
  go_enter Tryz.func39, Tryz.ntmps39
  go_wp2_with (fail)
  have hx0 := HX.out.lt
  generalize (w.alloc (.cells #[.int .i64 op, .int .i64 xa, .int .i64 xb, .bool s, .string nn, .string d] 40)) = W0 at *
  rename Hid (Blk W0 p _ _) => HP0
  rename Hid (Blk W0 w.heap.size _ _) => HX0
  rename Hid (w.grownBy W0 none) => HB0
  have HBd0 := Lib.hid (grownBy_drew HB0.out)
  refine wp_region_held_drew (S := fun w' => w'.cell? ⟨p, 1, none⟩ = some (.bool a.neg) ∧ w'.cell? ⟨p, 2, none⟩ = some (.string a.n) ∧ w'.cell? ⟨p, 3, none⟩ = some (.string a.d) ∧ w'.cell? ⟨p, 4, none⟩ = some (.bool b.neg) ∧ w'.cell? ⟨p, 5, none⟩ = some (.string b.n) ∧ w'.cell? ⟨p, 6, none⟩ = some (.string b.d) ∧ w'.cell? ⟨w.heap.size, 3, none⟩ = some (.bool s) ∧ w'.cell? ⟨w.heap.size, 4, none⟩ = some (.string nn) ∧ w'.cell? ⟨w.heap.size, 5, none⟩ = some (.string d)) (by kernel_rfl) (nine HP0.out.drew HX0.out.drew) (fun hS0 => ?_)
  refine wpAnyH_take (i := 0) (v := ?_) rfl (by kernel_rfl) (by kernel_rfl) (by kernel_rfl) (fun _ _ _ h => h) (Or.inl ⟨by rfl, ?_⟩) (by assumption) ?_
  rotate_left
  · intro w hSw; (try dsimp only at hSw); go_simp; try with_reducible rfl
  try simp only [Act.put, List.setIfInBounds_toArray, List.set_cons_zero, List.set_cons_succ]
  refine wpAnyH_take (i := 1) (v := ?_) rfl (by kernel_rfl) (by kernel_rfl) (by kernel_rfl) (fun _ _ _ h => h) (Or.inl ⟨by rfl, ?_⟩) (by assumption) ?_
  rotate_left
  · intro w hSw; (try dsimp only at hSw); go_simp; try with_reducible rfl
  try simp only [Act.put, List.setIfInBounds_toArray, List.set_cons_zero, List.set_cons_succ]
  refine wpAnyH_take (i := 2) (v := ?_) rfl (by kernel_rfl) (by kernel_rfl) (by kernel_rfl) (fun _ _ _ h => h) (Or.inl ⟨by rfl, ?_⟩) (by assumption) ?_
  rotate_left
  · intro w hSw; (try dsimp only at hSw); go_simp; try with_reducible rfl
  try simp only [Act.put, List.setIfInBounds_toArray, List.set_cons_zero, List.set_cons_succ]
  refine wpAnyH_take (i := 3) (v := ?_) rfl (by kernel_rfl) (by kernel_rfl) (by kernel_rfl) (fun _ _ _ h => h) (Or.inl ⟨by rfl, ?_⟩) (by assumption) ?_
  rotate_left
  · intro w hSw; (try dsimp only at hSw); go_simp; try with_reducible rfl
  try simp only [Act.put, List.setIfInBounds_toArray, List.set_cons_zero, List.set_cons_succ]
  refine wpAnyH_take (i := 4) (v := ?_) rfl (by kernel_rfl) (by kernel_rfl) (by kernel_rfl) (fun _ _ _ h => h) (Or.inl ⟨by rfl, ?_⟩) (by assumption) ?_
  rotate_left
  · intro w hSw; (try dsimp only at hSw); go_simp; try with_reducible rfl
  try simp only [Act.put, List.setIfInBounds_toArray, List.set_cons_zero, List.set_cons_succ]
  refine wpAnyH_take (i := 5) (v := ?_) rfl (by kernel_rfl) (by kernel_rfl) (by kernel_rfl) (fun _ _ _ h => h) (Or.inl ⟨by rfl, ?_⟩) (by assumption) ?_
  rotate_left
  · intro w hSw; (try dsimp only at hSw); go_simp; try with_reducible rfl
  try simp only [Act.put, List.setIfInBounds_toArray, List.set_cons_zero, List.set_cons_succ]
  refine wpAnyH_ready (rs := [6, 10]) (by kernel_rfl) (by simp) ?_
  refine AllReadyH.cons rfl (fun K hK => ?_) ?_
  · go_simp
    refine (HD.out _).mono ?_
    rintro e w1 ⟨rfl, hb⟩
    have HP1 := Lib.hid (HP0.out.drew.under hb)
    have HX1 := Lib.hid (HX0.out.drew.under hb)
    have HB1 := Lib.hid (grownBy_under (HBd0.out) hb)
    clear hb
    refine hK _ _ (nine HP1.out HX1.out) (fun hS2 => ?_)
    clear hK K
    refine wpAnyH_take (i := 7) (v := ?_) rfl (by kernel_rfl) (by kernel_rfl) (by kernel_rfl) (fun _ _ _ h => h) (Or.inl ⟨by rfl, ?_⟩) (by assumption) ?_
    rotate_left
    · intro w hSw; (try dsimp only at hSw); go_simp; try with_reducible rfl
    try simp only [Act.put, List.setIfInBounds_toArray, List.set_cons_zero, List.set_cons_succ]
    refine wpAnyH_take (i := 8) (v := ?_) rfl (by kernel_rfl) (by kernel_rfl) (by kernel_rfl) (fun _ _ _ h => h) (Or.inl ⟨by rfl, ?_⟩) (by assumption) ?_
    rotate_left
    · intro w hSw; (try dsimp only at hSw); go_simp; try with_reducible rfl
    try simp only [Act.put, List.setIfInBounds_toArray, List.set_cons_zero, List.set_cons_succ]
    refine wpAnyH_take (i := 9) (v := ?_) rfl (by kernel_rfl) (by kernel_rfl) (by kernel_rfl) (fun _ _ _ h => h) (Or.inl ⟨by rfl, ?_⟩) (by assumption) ?_
    rotate_left
    · intro w hSw; (try dsimp only at hSw); go_simp; try with_reducible rfl
    try simp only [Act.put, List.setIfInBounds_toArray, List.set_cons_zero, List.set_cons_succ]
    refine wpAnyH_ready (rs := [10]) (by kernel_rfl) (by simp) ?_
    refine AllReadyH.cons rfl (fun K hK => ?_) ?_
    · go_simp
      have HG2 : Hid (Blk (w1.alloc (.cells #[.bool false, .string { data := #[] }, .string { data := #[] }] 25)) w1.heap.size 25 #[.bool false, .string { data := #[] }, .string { data := #[] }]) := Blk.new w1 _ _
      have HP2 := Lib.hid (HP1.out.alloc (.cells #[.bool false, .string { data := #[] }, .string { data := #[] }] 25))
      have HX2 := Lib.hid (HX1.out.alloc (.cells #[.bool false, .string { data := #[] }, .string { data := #[] }] 25))
      have HB2 := Lib.hid (grownBy_trans HB1.out (World.grownBy_alloc w1 (.cells #[.bool false, .string { data := #[] }, .string { data := #[] }] 25) none))
      have hw1 := HB1.out.size
      have hp1 := HP1.out.lt
      refine hK _ _ (nine HP2.out HX2.out) (fun hS3 => ?_)
      clear hK K
      have r0 := HG2.out.cell (i := 0) rfl
      have r1 := HG2.out.cell (i := 1) rfl
      have r2 := HG2.out.cell (i := 2) rfl
      have fr := HG2.out.frozen
      refine wpAnyH_ready (rs := [11]) (by kernel_rfl) (by simp) ?_
      refine AllReadyH.cons rfl (fun K hK => ?_) ?_
      · go_simp
        have HG3 : Hid (Blk (w1.alloc (.cells #[.bool v0, .string v1, .string v2] 25)) w1.heap.size 25 #[.bool v0, .string v1, .string v2]) := Blk.new w1 _ _
        have HP3 := Lib.hid (HP1.out.alloc (.cells #[.bool v0, .string v1, .string v2] 25))
        have HX3 := Lib.hid (HX1.out.alloc (.cells #[.bool v0, .string v1, .string v2] 25))
        have HB3 := Lib.hid (grownBy_trans HB1.out (World.grownBy_alloc w1 (.cells #[.bool v0, .string v1, .string v2] 25) none))
        refine hK _ _ (nine HP3.out HX3.out) (fun hS4 => ?_)
        clear hK K
        refine wpAnyH_take (i := 12) (v := ?_) rfl (by kernel_rfl) (by kernel_rfl) (by kernel_rfl) (fun _ _ _ h => h) (Or.inl ⟨by rfl, ?_⟩) (by assumption) ?_
        rotate_left
        · intro w hSw; (try dsimp only at hSw); go_simp; try with_reducible rfl
        try simp only [Act.put, List.setIfInBounds_toArray, List.set_cons_zero, List.set_cons_succ]
        refine wpAnyH_done (by kernel_rfl) ?_ _
        have hgp : w1.heap.size ≠ p := by omega
        generalize w1.alloc (.cells #[.bool v0, .string v1, .string v2] 25) = W3 at *
        go_wp2_with (fail)
        refine (mmust_ok _).mono ?_
        rintro e w5 ⟨rfl, hw5⟩
        rw [hw5]
        clear hw5
        have HU3 := Lib.hid (HU.out.kept HB3.out (by cases u.ownBlock <;> simp))
        have HK3 := Lib.hid (HK.out.kept HB3.out (by cases k.ownBlock <;> simp))
        have HS3 : Hid (Side B p w W3) := (Side.refl B p w).grown HB3.out hB (by simp)
        have hW3 : B ≤ W3.heap.size := Nat.le_trans hB HB3.out.size
        have HUW : Hid (∀ kb, u.ownBlock = some kb → kb < w.heap.size) := fun kb h => (HU.out.lt kb h).2
        go_wp2_with (fail)
        have q7 : W3.cell? ⟨p, 7, none⟩ = some u := HP3.out.cell (i := 7) rfl
        refine wp_region_held_drew (S := fun w' => w'.cell? ⟨w1.heap.size, 0, none⟩ = some (.bool v0) ∧ w'.cell? ⟨w1.heap.size, 1, none⟩ = some (.string v1) ∧ w'.cell? ⟨w1.heap.size, 2, none⟩ = some (.string v2) ∧ w'.cell? ⟨w.heap.size, 0, none⟩ = some (.int .i64 op) ∧ w'.cell? ⟨w.heap.size, 1, none⟩ = some (.int .i64 xa) ∧ w'.cell? ⟨w.heap.size, 2, none⟩ = some (.int .i64 xb)) (by kernel_rfl) ⟨(HG3.out.drew).cell (i := 0) rfl, (HG3.out.drew).cell (i := 1) rfl, (HG3.out.drew).cell (i := 2) rfl, (HX3.out.drew).cell (i := 0) rfl, (HX3.out.drew).cell (i := 1) rfl, (HX3.out.drew).cell (i := 2) rfl⟩ (fun hS3 => ?_)
        refine wpAnyH_take (i := 0) (v := ?_) rfl (by kernel_rfl) (by kernel_rfl) (by kernel_rfl) (fun _ _ _ h => h) (Or.inl ⟨by rfl, ?_⟩) (by assumption) ?_
        rotate_left
        · intro w hSw; (try dsimp only at hSw); go_simp; try with_reducible rfl
        try simp only [Act.put, List.setIfInBounds_toArray, List.set_cons_zero, List.set_cons_succ]
        refine wpAnyH_take (i := 1) (v := ?_) rfl (by kernel_rfl) (by kernel_rfl) (by kernel_rfl) (fun _ _ _ h => h) (Or.inl ⟨by rfl, ?_⟩) (by assumption) ?_
        rotate_left
        · intro w hSw; (try dsimp only at hSw); go_simp; try with_reducible rfl
        try simp only [Act.put, List.setIfInBounds_toArray, List.set_cons_zero, List.set_cons_succ]
        refine wpAnyH_take (i := 2) (v := ?_) rfl (by kernel_rfl) (by kernel_rfl) (by kernel_rfl) (fun _ _ _ h => h) (Or.inl ⟨by rfl, ?_⟩) (by assumption) ?_
        rotate_left
        · intro w hSw; (try dsimp only at hSw); go_simp; try with_reducible rfl
        try simp only [Act.put, List.setIfInBounds_toArray, List.set_cons_zero, List.set_cons_succ]
        refine wpAnyH_take (i := 3) (v := ?_) rfl (by kernel_rfl) (by kernel_rfl) (by kernel_rfl) (fun _ _ _ h => h) (Or.inl ⟨by rfl, ?_⟩) (by assumption) ?_
        rotate_left
        · intro w hSw; (try dsimp only at hSw); go_simp; try with_reducible rfl
        try simp only [Act.put, List.setIfInBounds_toArray, List.set_cons_zero, List.set_cons_succ]
        refine wpAnyH_take (i := 5) (v := ?_) rfl (by kernel_rfl) (by kernel_rfl) (by kernel_rfl) (fun _ _ _ h => h) (Or.inl ⟨by rfl, ?_⟩) (by assumption) ?_
        rotate_left
        · intro w hSw; (try dsimp only at hSw); go_simp; try with_reducible rfl
        try simp only [Act.put, List.setIfInBounds_toArray, List.set_cons_zero, List.set_cons_succ]
        refine wpAnyH_take (i := 6) (v := ?_) rfl (by kernel_rfl) (by kernel_rfl) (by kernel_rfl) (fun _ _ _ h => h) (Or.inl ⟨by rfl, ?_⟩) (by assumption) ?_
        rotate_left
        · intro w hSw; (try dsimp only at hSw); go_simp; try with_reducible rfl
        try simp only [Act.put, List.setIfInBounds_toArray, List.set_cons_zero, List.set_cons_succ]
        refine wpAnyH_take (i := 7) (v := ?_) rfl (by kernel_rfl) (by kernel_rfl) (by kernel_rfl) (fun _ _ _ h => h) (Or.inl ⟨by rfl, ?_⟩) (by assumption) ?_
        rotate_left
        · intro w hSw; (try dsimp only at hSw); go_simp; try with_reducible rfl
        try simp only [Act.put, List.setIfInBounds_toArray, List.set_cons_zero, List.set_cons_succ]
        refine wpAnyH_take (i := 8) (v := ?_) rfl (by kernel_rfl) (by kernel_rfl) (by kernel_rfl) (fun _ _ _ h => h) (Or.inl ⟨by rfl, ?_⟩) (by assumption) ?_
        rotate_left
        · intro w hSw; (try dsimp only at hSw); go_simp; try with_reducible rfl
        try simp only [Act.put, List.setIfInBounds_toArray, List.set_cons_zero, List.set_cons_succ]
        refine wpAnyH_take (i := 9) (v := ?_) rfl (by kernel_rfl) (by kernel_rfl) (by kernel_rfl) (fun _ _ _ h => h) (Or.inl ⟨by rfl, ?_⟩) (by assumption) ?_
        rotate_left
        · intro w hSw; (try dsimp only at hSw); go_simp; try with_reducible rfl
        try simp only [Act.put, List.setIfInBounds_toArray, List.set_cons_zero, List.set_cons_succ]
        refine wpAnyH_take (i := 10) (v := ?_) rfl (by kernel_rfl) (by kernel_rfl) (by kernel_rfl) (fun _ _ _ h => h) (Or.inl ⟨by rfl, ?_⟩) (by assumption) ?_
        rotate_left
        · intro w hSw; (try dsimp only at hSw); go_simp; try with_reducible rfl
        try simp only [Act.put, List.setIfInBounds_toArray, List.set_cons_zero, List.set_cons_succ]
        refine wpAnyH_take (i := 11) (v := ?_) rfl (by kernel_rfl) (by kernel_rfl) (by kernel_rfl) (fun _ _ _ h => h) (Or.inl ⟨by rfl, ?_⟩) (by assumption) ?_
        rotate_left
        · intro w hSw; (try dsimp only at hSw); go_simp; try with_reducible rfl
        try simp only [Act.put, List.setIfInBounds_toArray, List.set_cons_zero, List.set_cons_succ]
        refine wpAnyH_take (i := 12) (v := ?_) rfl (by kernel_rfl) (by kernel_rfl) (by kernel_rfl) (fun _ _ _ h => h) (Or.inl ⟨by rfl, ?_⟩) (by assumption) ?_
        rotate_left
        · intro w hSw; (try dsimp only at hSw); go_simp; try with_reducible rfl
        try simp only [Act.put, List.setIfInBounds_toArray, List.set_cons_zero, List.set_cons_succ]
        refine wpAnyH_take (i := 13) (v := ?_) rfl (by kernel_rfl) (by kernel_rfl) (by kernel_rfl) (fun _ _ _ h => h) (Or.inl ⟨by rfl, ?_⟩) (by assumption) ?_
        rotate_left
        · intro w hSw; (try dsimp only at hSw); go_simp; try with_reducible rfl
        try simp only [Act.put, List.setIfInBounds_toArray, List.set_cons_zero, List.set_cons_succ]
        refine wpAnyH_take (i := 14) (v := ?_) rfl (by kernel_rfl) (by kernel_rfl) (by kernel_rfl) (fun _ _ _ h => h) (Or.inl ⟨by rfl, ?_⟩) (by assumption) ?_
        rotate_left
        · intro w hSw; (try dsimp only at hSw); go_simp; try with_reducible rfl
        try simp only [Act.put, List.setIfInBounds_toArray, List.set_cons_zero, List.set_cons_succ]
        refine wpAnyH_ready (rs := [4, 15]) (by kernel_rfl) (by simp) ?_
        refine AllReadyH.cons rfl (fun K hK => ?_) ?_
        · go_simp
          refine hK _ _ ⟨(HG3.out.drew).cell (i := 0) rfl, (HG3.out.drew).cell (i := 1) rfl, (HG3.out.drew).cell (i := 2) rfl, (HX3.out.drew).cell (i := 0) rfl, (HX3.out.drew).cell (i := 1) rfl, (HX3.out.drew).cell (i := 2) rfl⟩ (fun hS4 => ?_)
          clear hK K
          refine wpAnyH_ready (rs := [15]) (by kernel_rfl) (by simp) ?_
          refine AllReadyH.cons rfl (fun K hK => ?_) ?_
          · go_simp
            have HP4 := Lib.hid (HP3.out.drew.alloc (.cells #[.int .i64 xa, .bool v0, .string v1, .string v2, .bool (op == 5), .bool (xb == 1)] 58))
            have HG4 := Lib.hid (HG3.out.drew.alloc (.cells #[.int .i64 xa, .bool v0, .string v1, .string v2, .bool (op == 5), .bool (xb == 1)] 58))
            have HX4 := Lib.hid (HX3.out.drew.alloc (.cells #[.int .i64 xa, .bool v0, .string v1, .string v2, .bool (op == 5), .bool (xb == 1)] 58))
            have HU4 : Hid (World.ownsRow (W3.drew.alloc (.cells #[.int .i64 xa, .bool v0, .string v1, .string v2, .bool (op == 5), .bool (xb == 1)] 58)) B 58 6 u n us) := HU3.out.alloc (w := W3.drew) _
            have HK4 : Hid (World.ownsRow (W3.drew.alloc (.cells #[.int .i64 xa, .bool v0, .string v1, .string v2, .bool (op == 5), .bool (xb == 1)] 58)) B 60 2 k m ws) := HK3.out.alloc (w := W3.drew) _
            have HS4 := Lib.hid (HS3.out.drew.alloc hW3 (.cells #[.int .i64 xa, .bool v0, .string v1, .string v2, .bool (op == 5), .bool (xb == 1)] 58))
            have HW4 : Hid (B ≤ (W3.drew.alloc (.cells #[.int .i64 xa, .bool v0, .string v1, .string v2, .bool (op == 5), .bool (xb == 1)] 58)).heap.size) := by have h : B ≤ W3.heap.size := hW3; show _ ≤ _; simp; exact Nat.le_succ_of_le h
            refine hK _ _ ⟨(HG4.out).cell (i := 0) rfl, (HG4.out).cell (i := 1) rfl, (HG4.out).cell (i := 2) rfl, (HX4.out).cell (i := 0) rfl, (HX4.out).cell (i := 1) rfl, (HX4.out).cell (i := 2) rfl⟩ (fun hS5 => ?_)
            clear hK K
            refine wpAnyH_ready (rs := [16]) (by kernel_rfl) (by simp) ?_
            refine AllReadyH.cons rfl (fun K hK => ?_) ?_
            · refine step_append_lies _ rfl (.tmp 22) (.tmp 33) 29 rfl B 58 iu _ 6 56 Tryz.underlying29 HI.out HZ0.out HZ1.out HZ2.out rfl (by decide) u n us (by simp [Act.eval]) HU4.out ⟨W3.heap.size, 0, none⟩ 1 1 [.int .i64 xa, .bool v0, .string v1, .string v2, .bool (op == 5), .bool (xb == 1)] (by simp [Act.eval]) rfl (World.news_of_block (Blk.new W3.drew _ _)) (by simp [Value.oneCell']) (by decide) (by unfold maxLen; omega) (by omega) HW4.out _ rfl ?_
              intro gg cap w5 hown hgrow hat hlt5
              have HU5 := Lib.hid hown
              have HP5 := Lib.hid (HP4.out.kept hgrow (ne_row HU4.out hpB))
              have HK5 := Lib.hid (HK4.out.kept hgrow (rows_ne HAP.out))
              have HAP5 : Hid (Value.ownBlock (.slice (some ⟨gg, 0, none⟩) (n + 1) cap) ≠ k.ownBlock) := rows_apart HK4.out rfl HAP.out hat
              have HG5 := Lib.hid (HG4.out.kept hgrow (fun he => by have := row_low HU4.out _ he.symm; have := (HU4.out.lt _ he.symm).2; have := HUW.out _ he.symm; omega))
              have HX5 := Lib.hid (HX4.out.kept hgrow (fun he => by have := HUW.out _ he.symm; omega))
              have HS5 := Lib.hid (HS4.out.grown hgrow (by have := HW4.out; omega) (row_low HU4.out))
              have q7 := HP5.out.cell (i := 7) rfl
              have fq := HP5.out.frozen
              clear hown hgrow hat
              refine hK _ _ ⟨(HG5.out).cell (i := 0) rfl, (HG5.out).cell (i := 1) rfl, (HG5.out).cell (i := 2) rfl, (HX5.out).cell (i := 0) rfl, (HX5.out).cell (i := 1) rfl, (HX5.out).cell (i := 2) rfl⟩ (fun hS6 => ?_)
              clear hK K
              refine wpAnyH_take (i := 17) (v := ?_) rfl (by kernel_rfl) (by kernel_rfl) (by kernel_rfl) (fun _ _ _ h => h) (Or.inl ⟨by rfl, ?_⟩) (by assumption) ?_
              rotate_left
              · intro w hSw; (try dsimp only at hSw); go_simp; try with_reducible rfl
              try simp only [Act.put, List.setIfInBounds_toArray, List.set_cons_zero, List.set_cons_succ]
              refine wpAnyH_take (i := 18) (v := ?_) rfl (by kernel_rfl) (by kernel_rfl) (by kernel_rfl) (fun _ _ _ h => h) (Or.inl ⟨by rfl, ?_⟩) (by assumption) ?_
              rotate_left
              · intro w hSw; (try dsimp only at hSw); go_simp; try with_reducible rfl
              try simp only [Act.put, List.setIfInBounds_toArray, List.set_cons_zero, List.set_cons_succ]
              refine wpAnyH_ready (rs := [19]) (by kernel_rfl) (by simp) ?_
              refine AllReadyH.cons rfl (fun K hK => ?_) ?_
              · go_simp
                refine hK _ _ ⟨(HG5.out.other _ hgp).cell (i := 0) rfl, (HG5.out.other _ hgp).cell (i := 1) rfl, (HG5.out.other _ hgp).cell (i := 2) rfl, (HX5.out.other _ hne).cell (i := 0) rfl, (HX5.out.other _ hne).cell (i := 1) rfl, (HX5.out.other _ hne).cell (i := 2) rfl⟩ (fun hS7 => ?_)
                clear hK K
                refine wpAnyH_done (by kernel_rfl) ?_ _
                go_wp2
                go_end0
                exact ⟨rfl, _, HP5.out.set (i := 7) _, HU5.out.kept (grownBy_set _ _ _ _) (.inr (by have := ne_row HU5.out hpB; exact fun h => this h.symm)), HK5.out.kept (grownBy_set _ _ _ _) (.inr (by have := ne_row HK5.out hpB; exact fun h => this h.symm)), HAP5.out, HS5.out.set _ _⟩
              exact AllReadyH.nil
            exact AllReadyH.nil
          exact AllReadyH.nil
        refine AllReadyH.cons rfl (fun K hK => ?_) ?_
        · go_simp
          have HP4 := Lib.hid (HP3.out.drew.alloc (.cells #[.int .i64 xa, .bool v0, .string v1, .string v2, .bool (op == 5), .bool (xb == 1)] 58))
          have HG4 := Lib.hid (HG3.out.drew.alloc (.cells #[.int .i64 xa, .bool v0, .string v1, .string v2, .bool (op == 5), .bool (xb == 1)] 58))
          have HX4 := Lib.hid (HX3.out.drew.alloc (.cells #[.int .i64 xa, .bool v0, .string v1, .string v2, .bool (op == 5), .bool (xb == 1)] 58))
          have HU4 : Hid (World.ownsRow (W3.drew.alloc (.cells #[.int .i64 xa, .bool v0, .string v1, .string v2, .bool (op == 5), .bool (xb == 1)] 58)) B 58 6 u n us) := HU3.out.alloc (w := W3.drew) _
          have HK4 : Hid (World.ownsRow (W3.drew.alloc (.cells #[.int .i64 xa, .bool v0, .string v1, .string v2, .bool (op == 5), .bool (xb == 1)] 58)) B 60 2 k m ws) := HK3.out.alloc (w := W3.drew) _
          have HS4 := Lib.hid (HS3.out.drew.alloc hW3 (.cells #[.int .i64 xa, .bool v0, .string v1, .string v2, .bool (op == 5), .bool (xb == 1)] 58))
          have HW4 : Hid (B ≤ (W3.drew.alloc (.cells #[.int .i64 xa, .bool v0, .string v1, .string v2, .bool (op == 5), .bool (xb == 1)] 58)).heap.size) := by have h : B ≤ W3.heap.size := hW3; show _ ≤ _; simp; exact Nat.le_succ_of_le h
          refine hK _ _ ⟨(HG4.out).cell (i := 0) rfl, (HG4.out).cell (i := 1) rfl, (HG4.out).cell (i := 2) rfl, (HX4.out).cell (i := 0) rfl, (HX4.out).cell (i := 1) rfl, (HX4.out).cell (i := 2) rfl⟩ (fun hS5 => ?_)
          clear hK K
          have q7 : (W3.alloc (.cells #[.int .i64 xa, .bool v0, .string v1, .string v2, .bool (op == 5), .bool (xb == 1)] 58)).cell? ⟨p, 7, none⟩ = some u := (HP3.out.alloc (.cells #[.int .i64 xa, .bool v0, .string v1, .string v2, .bool (op == 5), .bool (xb == 1)] 58)).cell (i := 7) rfl
          refine wpAnyH_ready (rs := [4]) (by kernel_rfl) (by simp) ?_
          refine AllReadyH.cons rfl (fun K hK => ?_) ?_
          · go_simp
            refine hK _ _ ⟨(HG4.out).cell (i := 0) rfl, (HG4.out).cell (i := 1) rfl, (HG4.out).cell (i := 2) rfl, (HX4.out).cell (i := 0) rfl, (HX4.out).cell (i := 1) rfl, (HX4.out).cell (i := 2) rfl⟩ (fun hS4 => ?_)
            clear hK K
            refine wpAnyH_ready (rs := [16]) (by kernel_rfl) (by simp) ?_
            refine AllReadyH.cons rfl (fun K hK => ?_) ?_
            · refine step_append_lies _ rfl (.tmp 22) (.tmp 33) 29 rfl B 58 iu _ 6 56 Tryz.underlying29 HI.out HZ0.out HZ1.out HZ2.out rfl (by decide) u n us (by simp [Act.eval]) HU4.out ⟨W3.heap.size, 0, none⟩ 1 1 [.int .i64 xa, .bool v0, .string v1, .string v2, .bool (op == 5), .bool (xb == 1)] (by simp [Act.eval]) rfl (World.news_of_block (Blk.new W3.drew _ _)) (by simp [Value.oneCell']) (by decide) (by unfold maxLen; omega) (by omega) HW4.out _ rfl ?_
              intro gg cap w5 hown hgrow hat hlt5
              have HU5 := Lib.hid hown
              have HP5 := Lib.hid (HP4.out.kept hgrow (ne_row HU4.out hpB))
              have HK5 := Lib.hid (HK4.out.kept hgrow (rows_ne HAP.out))
              have HAP5 : Hid (Value.ownBlock (.slice (some ⟨gg, 0, none⟩) (n + 1) cap) ≠ k.ownBlock) := rows_apart HK4.out rfl HAP.out hat
              have HG5 := Lib.hid (HG4.out.kept hgrow (fun he => by have := row_low HU4.out _ he.symm; have := (HU4.out.lt _ he.symm).2; have := HUW.out _ he.symm; omega))
              have HX5 := Lib.hid (HX4.out.kept hgrow (fun he => by have := HUW.out _ he.symm; omega))
              have HS5 := Lib.hid (HS4.out.grown hgrow (by have := HW4.out; omega) (row_low HU4.out))
              have q7 := HP5.out.cell (i := 7) rfl
              have fq := HP5.out.frozen
              clear hown hgrow hat
              refine hK _ _ ⟨(HG5.out).cell (i := 0) rfl, (HG5.out).cell (i := 1) rfl, (HG5.out).cell (i := 2) rfl, (HX5.out).cell (i := 0) rfl, (HX5.out).cell (i := 1) rfl, (HX5.out).cell (i := 2) rfl⟩ (fun hS6 => ?_)
              clear hK K
              refine wpAnyH_take (i := 17) (v := ?_) rfl (by kernel_rfl) (by kernel_rfl) (by kernel_rfl) (fun _ _ _ h => h) (Or.inl ⟨by rfl, ?_⟩) (by assumption) ?_
              rotate_left
              · intro w hSw; (try dsimp only at hSw); go_simp; try with_reducible rfl
              try simp only [Act.put, List.setIfInBounds_toArray, List.set_cons_zero, List.set_cons_succ]
              refine wpAnyH_take (i := 18) (v := ?_) rfl (by kernel_rfl) (by kernel_rfl) (by kernel_rfl) (fun _ _ _ h => h) (Or.inl ⟨by rfl, ?_⟩) (by assumption) ?_
              rotate_left
              · intro w hSw; (try dsimp only at hSw); go_simp; try with_reducible rfl
              try simp only [Act.put, List.setIfInBounds_toArray, List.set_cons_zero, List.set_cons_succ]
              refine wpAnyH_ready (rs := [19]) (by kernel_rfl) (by simp) ?_
              refine AllReadyH.cons rfl (fun K hK => ?_) ?_
              · go_simp
                refine hK _ _ ⟨(HG5.out.other _ hgp).cell (i := 0) rfl, (HG5.out.other _ hgp).cell (i := 1) rfl, (HG5.out.other _ hgp).cell (i := 2) rfl, (HX5.out.other _ hne).cell (i := 0) rfl, (HX5.out.other _ hne).cell (i := 1) rfl, (HX5.out.other _ hne).cell (i := 2) rfl⟩ (fun hS7 => ?_)
                clear hK K
                refine wpAnyH_done (by kernel_rfl) ?_ _
                go_wp2
                go_end0
                exact ⟨rfl, _, HP5.out.set (i := 7) _, HU5.out.kept (grownBy_set _ _ _ _) (.inr (by have := ne_row HU5.out hpB; exact fun h => this h.symm)), HK5.out.kept (grownBy_set _ _ _ _) (.inr (by have := ne_row HK5.out hpB; exact fun h => this h.symm)), HAP5.out, HS5.out.set _ _⟩
              exact AllReadyH.nil
            exact AllReadyH.nil
          exact AllReadyH.nil
        exact AllReadyH.nil
      exact AllReadyH.nil
    exact AllReadyH.nil
  refine AllReadyH.cons rfl (fun K hK => ?_) ?_
  · go_simp
    have HG0 : Hid (Blk (W0.drew.alloc (.cells #[.bool false, .string { data := #[] }, .string { data := #[] }] 25)) W0.heap.size 25 #[.bool false, .string { data := #[] }, .string { data := #[] }]) := Blk.new W0.drew _ _
    have HPb := Lib.hid (HP0.out.drew.alloc (.cells #[.bool false, .string { data := #[] }, .string { data := #[] }] 25))
    have HXb := Lib.hid (HX0.out.drew.alloc (.cells #[.bool false, .string { data := #[] }, .string { data := #[] }] 25))
    have HBb := Lib.hid (grownBy_trans HBd0.out (World.grownBy_alloc W0.drew (.cells #[.bool false, .string { data := #[] }, .string { data := #[] }] 25) none))
    refine hK _ _ (nine HPb.out HXb.out) (fun hS2 => ?_)
    clear hK K
    refine wpAnyH_ready (rs := [6]) (by kernel_rfl) (by simp) ?_
    refine AllReadyH.cons rfl (fun K hK => ?_) ?_
    · go_simp
      refine (HD.out _).mono ?_
      rintro e w1 ⟨rfl, hb⟩
      have HG2 := Lib.hid (HG0.out.under hb)
      have HP2 := Lib.hid (HPb.out.under hb)
      have HX2 := Lib.hid (HXb.out.under hb)
      have HB2 := Lib.hid (grownBy_under HBb.out hb)
      clear hb
      have hp1 := HP2.out.lt
      refine hK _ _ (nine HP2.out HX2.out) (fun hS3 => ?_)
      clear hK K
      have r0 := HG2.out.cell (i := 0) rfl
      have r1 := HG2.out.cell (i := 1) rfl
      have r2 := HG2.out.cell (i := 2) rfl
      have fr := HG2.out.frozen
      refine wpAnyH_take (i := 7) (v := ?_) rfl (by kernel_rfl) (by kernel_rfl) (by kernel_rfl) (fun _ _ _ h => h) (Or.inl ⟨by rfl, ?_⟩) (by assumption) ?_
      rotate_left
      · intro w hSw; (try dsimp only at hSw); go_simp; try with_reducible rfl
      try simp only [Act.put, List.setIfInBounds_toArray, List.set_cons_zero, List.set_cons_succ]
      refine wpAnyH_take (i := 8) (v := ?_) rfl (by kernel_rfl) (by kernel_rfl) (by kernel_rfl) (fun _ _ _ h => h) (Or.inl ⟨by rfl, ?_⟩) (by assumption) ?_
      rotate_left
      · intro w hSw; (try dsimp only at hSw); go_simp; try with_reducible rfl
      try simp only [Act.put, List.setIfInBounds_toArray, List.set_cons_zero, List.set_cons_succ]
      refine wpAnyH_take (i := 9) (v := ?_) rfl (by kernel_rfl) (by kernel_rfl) (by kernel_rfl) (fun _ _ _ h => h) (Or.inl ⟨by rfl, ?_⟩) (by assumption) ?_
      rotate_left
      · intro w hSw; (try dsimp only at hSw); go_simp; try with_reducible rfl
      try simp only [Act.put, List.setIfInBounds_toArray, List.set_cons_zero, List.set_cons_succ]
      refine wpAnyH_ready (rs := [11]) (by kernel_rfl) (by simp) ?_
      refine AllReadyH.cons rfl (fun K hK => ?_) ?_
      · go_simp
        obtain ⟨HG3, HP3, HX3, HB3⟩ := box_fill (B := 0) v0 v1 v2 HG2.out HP2.out HX2.out (by have := HP2.out.lt; omega) (by omega) HB2.out (by omega)
        refine hK _ _ (nine HP3.out HX3.out) (fun hS4 => ?_)
        clear hK K
        refine wpAnyH_take (i := 12) (v := ?_) rfl (by kernel_rfl) (by kernel_rfl) (by kernel_rfl) (fun _ _ _ h => h) (Or.inl ⟨by rfl, ?_⟩) (by assumption) ?_
        rotate_left
        · intro w hSw; (try dsimp only at hSw); go_simp; try with_reducible rfl
        try simp only [Act.put, List.setIfInBounds_toArray, List.set_cons_zero, List.set_cons_succ]
        refine wpAnyH_done (by kernel_rfl) ?_ _
        have hgp : W0.heap.size ≠ p := by omega
        generalize ((w1.setCell ⟨W0.heap.size, 0, none⟩ (.bool v0)).setCell ⟨W0.heap.size, 1, none⟩ (.string v1)).setCell ⟨W0.heap.size, 2, none⟩ (.string v2) = W3 at *
        go_wp2_with (fail)
        refine (mmust_ok _).mono ?_
        rintro e w5 ⟨rfl, hw5⟩
        rw [hw5]
        clear hw5
        have HU3 := Lib.hid (HU.out.kept HB3.out (by cases u.ownBlock <;> simp))
        have HK3 := Lib.hid (HK.out.kept HB3.out (by cases k.ownBlock <;> simp))
        have HS3 : Hid (Side B p w W3) := (Side.refl B p w).grown HB3.out hB (by simp)
        have hW3 : B ≤ W3.heap.size := Nat.le_trans hB HB3.out.size
        have HUW : Hid (∀ kb, u.ownBlock = some kb → kb < w.heap.size) := fun kb h => (HU.out.lt kb h).2
        go_wp2_with (fail)
        have q7 : W3.cell? ⟨p, 7, none⟩ = some u := HP3.out.cell (i := 7) rfl
        refine wp_region_held_drew (S := fun w' => w'.cell? ⟨W0.heap.size, 0, none⟩ = some (.bool v0) ∧ w'.cell? ⟨W0.heap.size, 1, none⟩ = some (.string v1) ∧ w'.cell? ⟨W0.heap.size, 2, none⟩ = some (.string v2) ∧ w'.cell? ⟨w.heap.size, 0, none⟩ = some (.int .i64 op) ∧ w'.cell? ⟨w.heap.size, 1, none⟩ = some (.int .i64 xa) ∧ w'.cell? ⟨w.heap.size, 2, none⟩ = some (.int .i64 xb)) (by kernel_rfl) ⟨(HG3.out.drew).cell (i := 0) rfl, (HG3.out.drew).cell (i := 1) rfl, (HG3.out.drew).cell (i := 2) rfl, (HX3.out.drew).cell (i := 0) rfl, (HX3.out.drew).cell (i := 1) rfl, (HX3.out.drew).cell (i := 2) rfl⟩ (fun hS3 => ?_)
        refine wpAnyH_take (i := 0) (v := ?_) rfl (by kernel_rfl) (by kernel_rfl) (by kernel_rfl) (fun _ _ _ h => h) (Or.inl ⟨by rfl, ?_⟩) (by assumption) ?_
        rotate_left
        · intro w hSw; (try dsimp only at hSw); go_simp; try with_reducible rfl
        try simp only [Act.put, List.setIfInBounds_toArray, List.set_cons_zero, List.set_cons_succ]
        refine wpAnyH_take (i := 1) (v := ?_) rfl (by kernel_rfl) (by kernel_rfl) (by kernel_rfl) (fun _ _ _ h => h) (Or.inl ⟨by rfl, ?_⟩) (by assumption) ?_
        rotate_left
        · intro w hSw; (try dsimp only at hSw); go_simp; try with_reducible rfl
        try simp only [Act.put, List.setIfInBounds_toArray, List.set_cons_zero, List.set_cons_succ]
        refine wpAnyH_take (i := 2) (v := ?_) rfl (by kernel_rfl) (by kernel_rfl) (by kernel_rfl) (fun _ _ _ h => h) (Or.inl ⟨by rfl, ?_⟩) (by assumption) ?_
        rotate_left
        · intro w hSw; (try dsimp only at hSw); go_simp; try with_reducible rfl
        try simp only [Act.put, List.setIfInBounds_toArray, List.set_cons_zero, List.set_cons_succ]
        refine wpAnyH_take (i := 3) (v := ?_) rfl (by kernel_rfl) (by kernel_rfl) (by kernel_rfl) (fun _ _ _ h => h) (Or.inl ⟨by rfl, ?_⟩) (by assumption) ?_
        rotate_left
        · intro w hSw; (try dsimp only at hSw); go_simp; try with_reducible rfl
        try simp only [Act.put, List.setIfInBounds_toArray, List.set_cons_zero, List.set_cons_succ]
        refine wpAnyH_take (i := 5) (v := ?_) rfl (by kernel_rfl) (by kernel_rfl) (by kernel_rfl) (fun _ _ _ h => h) (Or.inl ⟨by rfl, ?_⟩) (by assumption) ?_
        rotate_left
        · intro w hSw; (try dsimp only at hSw); go_simp; try with_reducible rfl
        try simp only [Act.put, List.setIfInBounds_toArray, List.set_cons_zero, List.set_cons_succ]
        refine wpAnyH_take (i := 6) (v := ?_) rfl (by kernel_rfl) (by kernel_rfl) (by kernel_rfl) (fun _ _ _ h => h) (Or.inl ⟨by rfl, ?_⟩) (by assumption) ?_
        rotate_left
        · intro w hSw; (try dsimp only at hSw); go_simp; try with_reducible rfl
        try simp only [Act.put, List.setIfInBounds_toArray, List.set_cons_zero, List.set_cons_succ]
        refine wpAnyH_take (i := 7) (v := ?_) rfl (by kernel_rfl) (by kernel_rfl) (by kernel_rfl) (fun _ _ _ h => h) (Or.inl ⟨by rfl, ?_⟩) (by assumption) ?_
        rotate_left
        · intro w hSw; (try dsimp only at hSw); go_simp; try with_reducible rfl
        try simp only [Act.put, List.setIfInBounds_toArray, List.set_cons_zero, List.set_cons_succ]
        refine wpAnyH_take (i := 8) (v := ?_) rfl (by kernel_rfl) (by kernel_rfl) (by kernel_rfl) (fun _ _ _ h => h) (Or.inl ⟨by rfl, ?_⟩) (by assumption) ?_
        rotate_left
        · intro w hSw; (try dsimp only at hSw); go_simp; try with_reducible rfl
        try simp only [Act.put, List.setIfInBounds_toArray, List.set_cons_zero, List.set_cons_succ]
        refine wpAnyH_take (i := 9) (v := ?_) rfl (by kernel_rfl) (by kernel_rfl) (by kernel_rfl) (fun _ _ _ h => h) (Or.inl ⟨by rfl, ?_⟩) (by assumption) ?_
        rotate_left
        · intro w hSw; (try dsimp only at hSw); go_simp; try with_reducible rfl
        try simp only [Act.put, List.setIfInBounds_toArray, List.set_cons_zero, List.set_cons_succ]
        refine wpAnyH_take (i := 10) (v := ?_) rfl (by kernel_rfl) (by kernel_rfl) (by kernel_rfl) (fun _ _ _ h => h) (Or.inl ⟨by rfl, ?_⟩) (by assumption) ?_
        rotate_left
        · intro w hSw; (try dsimp only at hSw); go_simp; try with_reducible rfl
        try simp only [Act.put, List.setIfInBounds_toArray, List.set_cons_zero, List.set_cons_succ]
        refine wpAnyH_take (i := 11) (v := ?_) rfl (by kernel_rfl) (by kernel_rfl) (by kernel_rfl) (fun _ _ _ h => h) (Or.inl ⟨by rfl, ?_⟩) (by assumption) ?_
        rotate_left
        · intro w hSw; (try dsimp only at hSw); go_simp; try with_reducible rfl
        try simp only [Act.put, List.setIfInBounds_toArray, List.set_cons_zero, List.set_cons_succ]
        refine wpAnyH_take (i := 12) (v := ?_) rfl (by kernel_rfl) (by kernel_rfl) (by kernel_rfl) (fun _ _ _ h => h) (Or.inl ⟨by rfl, ?_⟩) (by assumption) ?_
        rotate_left
        · intro w hSw; (try dsimp only at hSw); go_simp; try with_reducible rfl
        try simp only [Act.put, List.setIfInBounds_toArray, List.set_cons_zero, List.set_cons_succ]
        refine wpAnyH_take (i := 13) (v := ?_) rfl (by kernel_rfl) (by kernel_rfl) (by kernel_rfl) (fun _ _ _ h => h) (Or.inl ⟨by rfl, ?_⟩) (by assumption) ?_
        rotate_left
        · intro w hSw; (try dsimp only at hSw); go_simp; try with_reducible rfl
        try simp only [Act.put, List.setIfInBounds_toArray, List.set_cons_zero, List.set_cons_succ]
        refine wpAnyH_take (i := 14) (v := ?_) rfl (by kernel_rfl) (by kernel_rfl) (by kernel_rfl) (fun _ _ _ h => h) (Or.inl ⟨by rfl, ?_⟩) (by assumption) ?_
        rotate_left
        · intro w hSw; (try dsimp only at hSw); go_simp; try with_reducible rfl
        try simp only [Act.put, List.setIfInBounds_toArray, List.set_cons_zero, List.set_cons_succ]
        refine wpAnyH_ready (rs := [4, 15]) (by kernel_rfl) (by simp) ?_
        refine AllReadyH.cons rfl (fun K hK => ?_) ?_
        · go_simp
          refine hK _ _ ⟨(HG3.out.drew).cell (i := 0) rfl, (HG3.out.drew).cell (i := 1) rfl, (HG3.out.drew).cell (i := 2) rfl, (HX3.out.drew).cell (i := 0) rfl, (HX3.out.drew).cell (i := 1) rfl, (HX3.out.drew).cell (i := 2) rfl⟩ (fun hS4 => ?_)
          clear hK K
          refine wpAnyH_ready (rs := [15]) (by kernel_rfl) (by simp) ?_
          refine AllReadyH.cons rfl (fun K hK => ?_) ?_
          · go_simp
            have HP4 := Lib.hid (HP3.out.drew.alloc (.cells #[.int .i64 xa, .bool v0, .string v1, .string v2, .bool (op == 5), .bool (xb == 1)] 58))
            have HG4 := Lib.hid (HG3.out.drew.alloc (.cells #[.int .i64 xa, .bool v0, .string v1, .string v2, .bool (op == 5), .bool (xb == 1)] 58))
            have HX4 := Lib.hid (HX3.out.drew.alloc (.cells #[.int .i64 xa, .bool v0, .string v1, .string v2, .bool (op == 5), .bool (xb == 1)] 58))
            have HU4 : Hid (World.ownsRow (W3.drew.alloc (.cells #[.int .i64 xa, .bool v0, .string v1, .string v2, .bool (op == 5), .bool (xb == 1)] 58)) B 58 6 u n us) := HU3.out.alloc (w := W3.drew) _
            have HK4 : Hid (World.ownsRow (W3.drew.alloc (.cells #[.int .i64 xa, .bool v0, .string v1, .string v2, .bool (op == 5), .bool (xb == 1)] 58)) B 60 2 k m ws) := HK3.out.alloc (w := W3.drew) _
            have HS4 := Lib.hid (HS3.out.drew.alloc hW3 (.cells #[.int .i64 xa, .bool v0, .string v1, .string v2, .bool (op == 5), .bool (xb == 1)] 58))
            have HW4 : Hid (B ≤ (W3.drew.alloc (.cells #[.int .i64 xa, .bool v0, .string v1, .string v2, .bool (op == 5), .bool (xb == 1)] 58)).heap.size) := by have h : B ≤ W3.heap.size := hW3; show _ ≤ _; simp; exact Nat.le_succ_of_le h
            refine hK _ _ ⟨(HG4.out).cell (i := 0) rfl, (HG4.out).cell (i := 1) rfl, (HG4.out).cell (i := 2) rfl, (HX4.out).cell (i := 0) rfl, (HX4.out).cell (i := 1) rfl, (HX4.out).cell (i := 2) rfl⟩ (fun hS5 => ?_)
            clear hK K
            refine wpAnyH_ready (rs := [16]) (by kernel_rfl) (by simp) ?_
            refine AllReadyH.cons rfl (fun K hK => ?_) ?_
            · refine step_append_lies _ rfl (.tmp 22) (.tmp 33) 29 rfl B 58 iu _ 6 56 Tryz.underlying29 HI.out HZ0.out HZ1.out HZ2.out rfl (by decide) u n us (by simp [Act.eval]) HU4.out ⟨W3.heap.size, 0, none⟩ 1 1 [.int .i64 xa, .bool v0, .string v1, .string v2, .bool (op == 5), .bool (xb == 1)] (by simp [Act.eval]) rfl (World.news_of_block (Blk.new W3.drew _ _)) (by simp [Value.oneCell']) (by decide) (by unfold maxLen; omega) (by omega) HW4.out _ rfl ?_
              intro gg cap w5 hown hgrow hat hlt5
              have HU5 := Lib.hid hown
              have HP5 := Lib.hid (HP4.out.kept hgrow (ne_row HU4.out hpB))
              have HK5 := Lib.hid (HK4.out.kept hgrow (rows_ne HAP.out))
              have HAP5 : Hid (Value.ownBlock (.slice (some ⟨gg, 0, none⟩) (n + 1) cap) ≠ k.ownBlock) := rows_apart HK4.out rfl HAP.out hat
              have HG5 := Lib.hid (HG4.out.kept hgrow (fun he => by have := row_low HU4.out _ he.symm; have := (HU4.out.lt _ he.symm).2; have := HUW.out _ he.symm; omega))
              have HX5 := Lib.hid (HX4.out.kept hgrow (fun he => by have := HUW.out _ he.symm; omega))
              have HS5 := Lib.hid (HS4.out.grown hgrow (by have := HW4.out; omega) (row_low HU4.out))
              have q7 := HP5.out.cell (i := 7) rfl
              have fq := HP5.out.frozen
              clear hown hgrow hat
              refine hK _ _ ⟨(HG5.out).cell (i := 0) rfl, (HG5.out).cell (i := 1) rfl, (HG5.out).cell (i := 2) rfl, (HX5.out).cell (i := 0) rfl, (HX5.out).cell (i := 1) rfl, (HX5.out).cell (i := 2) rfl⟩ (fun hS6 => ?_)
              clear hK K
              refine wpAnyH_take (i := 17) (v := ?_) rfl (by kernel_rfl) (by kernel_rfl) (by kernel_rfl) (fun _ _ _ h => h) (Or.inl ⟨by rfl, ?_⟩) (by assumption) ?_
              rotate_left
              · intro w hSw; (try dsimp only at hSw); go_simp; try with_reducible rfl
              try simp only [Act.put, List.setIfInBounds_toArray, List.set_cons_zero, List.set_cons_succ]
              refine wpAnyH_take (i := 18) (v := ?_) rfl (by kernel_rfl) (by kernel_rfl) (by kernel_rfl) (fun _ _ _ h => h) (Or.inl ⟨by rfl, ?_⟩) (by assumption) ?_
              rotate_left
              · intro w hSw; (try dsimp only at hSw); go_simp; try with_reducible rfl
              try simp only [Act.put, List.setIfInBounds_toArray, List.set_cons_zero, List.set_cons_succ]
              refine wpAnyH_ready (rs := [19]) (by kernel_rfl) (by simp) ?_
              refine AllReadyH.cons rfl (fun K hK => ?_) ?_
              · go_simp
                refine hK _ _ ⟨(HG5.out.other _ hgp).cell (i := 0) rfl, (HG5.out.other _ hgp).cell (i := 1) rfl, (HG5.out.other _ hgp).cell (i := 2) rfl, (HX5.out.other _ hne).cell (i := 0) rfl, (HX5.out.other _ hne).cell (i := 1) rfl, (HX5.out.other _ hne).cell (i := 2) rfl⟩ (fun hS7 => ?_)
                clear hK K
                refine wpAnyH_done (by kernel_rfl) ?_ _
                go_wp2
                go_end0
                exact ⟨rfl, _, HP5.out.set (i := 7) _, HU5.out.kept (grownBy_set _ _ _ _) (.inr (by have := ne_row HU5.out hpB; exact fun h => this h.symm)), HK5.out.kept (grownBy_set _ _ _ _) (.inr (by have := ne_row HK5.out hpB; exact fun h => this h.symm)), HAP5.out, HS5.out.set _ _⟩
              exact AllReadyH.nil
            exact AllReadyH.nil
          exact AllReadyH.nil
        refine AllReadyH.cons rfl (fun K hK => ?_) ?_
        · go_simp
          have HP4 := Lib.hid (HP3.out.drew.alloc (.cells #[.int .i64 xa, .bool v0, .string v1, .string v2, .bool (op == 5), .bool (xb == 1)] 58))
          have HG4 := Lib.hid (HG3.out.drew.alloc (.cells #[.int .i64 xa, .bool v0, .string v1, .string v2, .bool (op == 5), .bool (xb == 1)] 58))
          have HX4 := Lib.hid (HX3.out.drew.alloc (.cells #[.int .i64 xa, .bool v0, .string v1, .string v2, .bool (op == 5), .bool (xb == 1)] 58))
          have HU4 : Hid (World.ownsRow (W3.drew.alloc (.cells #[.int .i64 xa, .bool v0, .string v1, .string v2, .bool (op == 5), .bool (xb == 1)] 58)) B 58 6 u n us) := HU3.out.alloc (w := W3.drew) _
          have HK4 : Hid (World.ownsRow (W3.drew.alloc (.cells #[.int .i64 xa, .bool v0, .string v1, .string v2, .bool (op == 5), .bool (xb == 1)] 58)) B 60 2 k m ws) := HK3.out.alloc (w := W3.drew) _
          have HS4 := Lib.hid (HS3.out.drew.alloc hW3 (.cells #[.int .i64 xa, .bool v0, .string v1, .string v2, .bool (op == 5), .bool (xb == 1)] 58))
          have HW4 : Hid (B ≤ (W3.drew.alloc (.cells #[.int .i64 xa, .bool v0, .string v1, .string v2, .bool (op == 5), .bool (xb == 1)] 58)).heap.size) := by have h : B ≤ W3.heap.size := hW3; show _ ≤ _; simp; exact Nat.le_succ_of_le h
          refine hK _ _ ⟨(HG4.out).cell (i := 0) rfl, (HG4.out).cell (i := 1) rfl, (HG4.out).cell (i := 2) rfl, (HX4.out).cell (i := 0) rfl, (HX4.out).cell (i := 1) rfl, (HX4.out).cell (i := 2) rfl⟩ (fun hS5 => ?_)
          clear hK K
          have q7 : (W3.alloc (.cells #[.int .i64 xa, .bool v0, .string v1, .string v2, .bool (op == 5), .bool (xb == 1)] 58)).cell? ⟨p, 7, none⟩ = some u := (HP3.out.alloc (.cells #[.int .i64 xa, .bool v0, .string v1, .string v2, .bool (op == 5), .bool (xb == 1)] 58)).cell (i := 7) rfl
          refine wpAnyH_ready (rs := [4]) (by kernel_rfl) (by simp) ?_
          refine AllReadyH.cons rfl (fun K hK => ?_) ?_
          · go_simp
            refine hK _ _ ⟨(HG4.out).cell (i := 0) rfl, (HG4.out).cell (i := 1) rfl, (HG4.out).cell (i := 2) rfl, (HX4.out).cell (i := 0) rfl, (HX4.out).cell (i := 1) rfl, (HX4.out).cell (i := 2) rfl⟩ (fun hS4 => ?_)
            clear hK K
            refine wpAnyH_ready (rs := [16]) (by kernel_rfl) (by simp) ?_
            refine AllReadyH.cons rfl (fun K hK => ?_) ?_
            · refine step_append_lies _ rfl (.tmp 22) (.tmp 33) 29 rfl B 58 iu _ 6 56 Tryz.underlying29 HI.out HZ0.out HZ1.out HZ2.out rfl (by decide) u n us (by simp [Act.eval]) HU4.out ⟨W3.heap.size, 0, none⟩ 1 1 [.int .i64 xa, .bool v0, .string v1, .string v2, .bool (op == 5), .bool (xb == 1)] (by simp [Act.eval]) rfl (World.news_of_block (Blk.new W3.drew _ _)) (by simp [Value.oneCell']) (by decide) (by unfold maxLen; omega) (by omega) HW4.out _ rfl ?_
              intro gg cap w5 hown hgrow hat hlt5
              have HU5 := Lib.hid hown
              have HP5 := Lib.hid (HP4.out.kept hgrow (ne_row HU4.out hpB))
              have HK5 := Lib.hid (HK4.out.kept hgrow (rows_ne HAP.out))
              have HAP5 : Hid (Value.ownBlock (.slice (some ⟨gg, 0, none⟩) (n + 1) cap) ≠ k.ownBlock) := rows_apart HK4.out rfl HAP.out hat
              have HG5 := Lib.hid (HG4.out.kept hgrow (fun he => by have := row_low HU4.out _ he.symm; have := (HU4.out.lt _ he.symm).2; have := HUW.out _ he.symm; omega))
              have HX5 := Lib.hid (HX4.out.kept hgrow (fun he => by have := HUW.out _ he.symm; omega))
              have HS5 := Lib.hid (HS4.out.grown hgrow (by have := HW4.out; omega) (row_low HU4.out))
              have q7 := HP5.out.cell (i := 7) rfl
              have fq := HP5.out.frozen
              clear hown hgrow hat
              refine hK _ _ ⟨(HG5.out).cell (i := 0) rfl, (HG5.out).cell (i := 1) rfl, (HG5.out).cell (i := 2) rfl, (HX5.out).cell (i := 0) rfl, (HX5.out).cell (i := 1) rfl, (HX5.out).cell (i := 2) rfl⟩ (fun hS6 => ?_)
              clear hK K
              refine wpAnyH_take (i := 17) (v := ?_) rfl (by kernel_rfl) (by kernel_rfl) (by kernel_rfl) (fun _ _ _ h => h) (Or.inl ⟨by rfl, ?_⟩) (by assumption) ?_
              rotate_left
              · intro w hSw; (try dsimp only at hSw); go_simp; try with_reducible rfl
              try simp only [Act.put, List.setIfInBounds_toArray, List.set_cons_zero, List.set_cons_succ]
              refine wpAnyH_take (i := 18) (v := ?_) rfl (by kernel_rfl) (by kernel_rfl) (by kernel_rfl) (fun _ _ _ h => h) (Or.inl ⟨by rfl, ?_⟩) (by assumption) ?_
              rotate_left
              · intro w hSw; (try dsimp only at hSw); go_simp; try with_reducible rfl
              try simp only [Act.put, List.setIfInBounds_toArray, List.set_cons_zero, List.set_cons_succ]
              refine wpAnyH_ready (rs := [19]) (by kernel_rfl) (by simp) ?_
              refine AllReadyH.cons rfl (fun K hK => ?_) ?_
              · go_simp
                refine hK _ _ ⟨(HG5.out.other _ hgp).cell (i := 0) rfl, (HG5.out.other _ hgp).cell (i := 1) rfl, (HG5.out.other _ hgp).cell (i := 2) rfl, (HX5.out.other _ hne).cell (i := 0) rfl, (HX5.out.other _ hne).cell (i := 1) rfl, (HX5.out.other _ hne).cell (i := 2) rfl⟩ (fun hS7 => ?_)
                clear hK K
                refine wpAnyH_done (by kernel_rfl) ?_ _
                go_wp2
                go_end0
                exact ⟨rfl, _, HP5.out.set (i := 7) _, HU5.out.kept (grownBy_set _ _ _ _) (.inr (by have := ne_row HU5.out hpB; exact fun h => this h.symm)), HK5.out.kept (grownBy_set _ _ _ _) (.inr (by have := ne_row HK5.out hpB; exact fun h => this h.symm)), HAP5.out, HS5.out.set _ _⟩
              exact AllReadyH.nil
            exact AllReadyH.nil
          exact AllReadyH.nil
        exact AllReadyH.nil
      exact AllReadyH.nil
    exact AllReadyH.nil
  exact AllReadyH.nil

end Go.Proofs.YteggbpaljmopoaaGreat
/- machine: (*state).run, end, fail. PRINTED BY wip/gen_mrun.py -/
namespace Go.Proofs.YteggbpaljmopoaaGreat
open Go.RowKit BF

set_option maxRecDepth 100000 in
set_option maxHeartbeats 2000000 in
theorem run_bad (op xa xb : Int) (s : Bool) (nn d : ByteArray) (p : Nat) (c : Value) (a b : RV) (u k : Value) (lead at_ : Int) (done : Bool) (E : Int) (hE : (E != 0) = true) (N : Int)
    (HD : Hid (∀ w : World, Calls Tryz.prog 67 #[.agg #[.bool b.neg, .string b.n, .string b.d]] w fun e w' => e = .returned (.tuple #[.int .i64 N, .int .i64 E]) ∧ Below w.heap.size w w'))
    (w : World) (hp : Blk w p 63 (stC c a b u k lead at_ done)) :
    Calls Tryz.prog 40 #[.pointer (some ⟨p, 0, none⟩), .agg #[.int .i64 op, .int .i64 xa, .int .i64 xb, .bool s, .string nn, .string d]] w fun e w' => e = .panicked (errv E) ∧ w.grownBy w' none := by
  have HP : Hid (Blk (w.alloc (.cells #[.int .i64 op, .int .i64 xa, .int .i64 xb, .bool s, .string nn, .string d] 40)) p 63 (stC c a b u k lead at_ done)) := hp.alloc _
  have HX : Hid (Blk (w.alloc (.cells #[.int .i64 op, .int .i64 xa, .int .i64 xb, .bool s, .string nn, .string d] 40)) w.heap.size 40 #[.int .i64 op, .int .i64 xa, .int .i64 xb, .bool s, .string nn, .string d]) := Blk.new _ _ _
  have HB : Hid (w.grownBy (w.alloc (.cells #[.int .i64 op, .int .i64 xa, .int .i64 xb, .bool s, .string nn, .string d] 40)) none) := World.grownBy_alloc _ _ _
  have hlt := hp.lt
  have hne : w.heap.size ≠ p := by omega
  clear hp
  have q4 : (w.alloc (.cells #[.int .i64 op, .int .i64 xa, .int .i64 xb, .bool s, .string nn, .string d] 40)).cell? ⟨p, 4, none⟩ = some (.bool b.neg) := HP.out.cell (i := 4) rfl
  have q5 : (w.alloc (.cells #[.int .i64 op, .int .i64 xa, .int .i64 xb, .bool s, .string nn, .string d] 40)).cell? ⟨p, 5, none⟩ = some (.string b.n) := HP.out.cell (i := 5) rfl
  have q6 : (w.alloc (.cells #[.int .i64 op, .int .i64 xa, .int .i64 xb, .bool s, .string nn, .string d] 40)).cell? ⟨p, 6, none⟩ = some (.string b.d) := HP.out.cell (i := 6) rfl
  go_enter Tryz.func40, Tryz.ntmps40
  go_wp2_with (fail)
  have hx0 := HX.out.lt
  generalize (w.alloc (.cells #[.int .i64 op, .int .i64 xa, .int .i64 xb, .bool s, .string nn, .string d] 40)) = W0 at *
  rename Hid (Blk W0 p _ _) => HP0
  rename Hid (Blk W0 w.heap.size _ _) => HX0
  rename Hid (w.grownBy W0 none) => HB0
  refine (HD.out _).mono ?_
  rintro e w1 ⟨rfl, hb⟩
  have HP1 := Lib.hid (HP0.out.under hb)
  have HX1 := Lib.hid (HX0.out.under hb)
  have HB1 := Lib.hid (grownBy_under HB0.out hb)
  clear hb q4 q5 q6
  go_wp2_with (fail)
  refine (mmust_bad E hE _).mono ?_
  rintro e w5 ⟨rfl, hw5⟩
  exact ⟨rfl, rfl, by rw [hw5]; exact HB1.out⟩

set_option maxRecDepth 100000 in
set_option maxHeartbeats 2000000 in
theorem run_lim (op xa xb : Int) (s : Bool) (nn d : ByteArray) (p : Nat) (c : Value) (a b : RV) (u k : Value) (lead at_ : Int) (done : Bool) (N : Int) (hN : 1099511627776 < N)
    (HD : Hid (∀ w : World, Calls Tryz.prog 67 #[.agg #[.bool b.neg, .string b.n, .string b.d]] w fun e w' => e = .returned (.tuple #[.int .i64 N, .int .i64 0]) ∧ Below w.heap.size w w'))
    (w : World) (hp : Blk w p 63 (stC c a b u k lead at_ done)) :
    Calls Tryz.prog 40 #[.pointer (some ⟨p, 0, none⟩), .agg #[.int .i64 op, .int .i64 xa, .int .i64 xb, .bool s, .string nn, .string d]] w fun e w' => e = .panicked (errv 2) ∧ w.grownBy w' none := by
  have HP : Hid (Blk (w.alloc (.cells #[.int .i64 op, .int .i64 xa, .int .i64 xb, .bool s, .string nn, .string d] 40)) p 63 (stC c a b u k lead at_ done)) := hp.alloc _
  have HX : Hid (Blk (w.alloc (.cells #[.int .i64 op, .int .i64 xa, .int .i64 xb, .bool s, .string nn, .string d] 40)) w.heap.size 40 #[.int .i64 op, .int .i64 xa, .int .i64 xb, .bool s, .string nn, .string d]) := Blk.new _ _ _
  have HB : Hid (w.grownBy (w.alloc (.cells #[.int .i64 op, .int .i64 xa, .int .i64 xb, .bool s, .string nn, .string d] 40)) none) := World.grownBy_alloc _ _ _
  have hlt := hp.lt
  have hne : w.heap.size ≠ p := by omega
  clear hp
  have q4 : (w.alloc (.cells #[.int .i64 op, .int .i64 xa, .int .i64 xb, .bool s, .string nn, .string d] 40)).cell? ⟨p, 4, none⟩ = some (.bool b.neg) := HP.out.cell (i := 4) rfl
  have q5 : (w.alloc (.cells #[.int .i64 op, .int .i64 xa, .int .i64 xb, .bool s, .string nn, .string d] 40)).cell? ⟨p, 5, none⟩ = some (.string b.n) := HP.out.cell (i := 5) rfl
  have q6 : (w.alloc (.cells #[.int .i64 op, .int .i64 xa, .int .i64 xb, .bool s, .string nn, .string d] 40)).cell? ⟨p, 6, none⟩ = some (.string b.d) := HP.out.cell (i := 6) rfl
  go_enter Tryz.func40, Tryz.ntmps40
  go_wp2_with (fail)
  have hx0 := HX.out.lt
  generalize (w.alloc (.cells #[.int .i64 op, .int .i64 xa, .int .i64 xb, .bool s, .string nn, .string d] 40)) = W0 at *
  rename Hid (Blk W0 p _ _) => HP0
  rename Hid (Blk W0 w.heap.size _ _) => HX0
  rename Hid (w.grownBy W0 none) => HB0
  refine (HD.out _).mono ?_
  rintro e w1 ⟨rfl, hb⟩
  have HP1 := Lib.hid (HP0.out.under hb)
  have HX1 := Lib.hid (HX0.out.under hb)
  have HB1 := Lib.hid (grownBy_under HB0.out hb)
  clear hb q4 q5 q6
  go_wp2_with (fail)
  refine (mmust_ok _).mono ?_
  rintro e w5 ⟨rfl, hw5⟩
  rw [hw5]
  clear hw5
  go_wp2_with (fail)
  refine (mmust_bad 2 rfl _).mono ?_
  rintro e w6 ⟨rfl, hw6⟩
  exact ⟨rfl, rfl, by rw [hw6]; exact HB1.out⟩

set_option maxRecDepth 100000 in
set_option maxHeartbeats 2000000 in
theorem run_ok (op xa xb : Int) (s : Bool) (nn d : ByteArray) (p : Nat) (c : Value) (a b : RV) (u k : Value) (lead at_ : Int) (done : Bool) (N : Int) (hN : ¬ 1099511627776 < N) (M : Int) (hw : IntKind.i64.wrap (xb * N) = M)
    (HD : Hid (∀ w : World, Calls Tryz.prog 67 #[.agg #[.bool b.neg, .string b.n, .string b.d]] w fun e w' => e = .returned (.tuple #[.int .i64 N, .int .i64 0]) ∧ Below w.heap.size w w'))
    (w : World) (hp : Blk w p 63 (stC c a b u k lead at_ done)) (B n m : Nat) (us ws : List Value) (hu : w.ownsRow B 60 2 k n us) (hk : w.ownsRow B 58 6 u m ws) (ha : k.ownBlock = none ∨ k.ownBlock ≠ u.ownBlock) (hpB : p < B) (hB : B ≤ w.heap.size) (hn : n ≤ 1000) :
    Calls Tryz.prog 40 #[.pointer (some ⟨p, 0, none⟩), .agg #[.int .i64 op, .int .i64 xa, .int .i64 xb, .bool s, .string nn, .string d]] w (GrowPost w B p 60 58 2 6 (fun k' => stC c a b u k' lead at_ done) n m us ws [.int .i64 xa, .int .i64 M] u) := by
  have HU := Lib.hid hu
  have HK := Lib.hid hk
  have HAP := Lib.hid ha
  clear hu hk ha
  obtain ⟨iu, hi, hz0, hz1, hz2⟩ := info_parts infoWork
  have HI := Lib.hid hi
  have HZ0 := Lib.hid hz0
  have HZ1 := Lib.hid hz1
  have HZ2 := Lib.hid hz2
  clear hi hz0 hz1 hz2
  have HP : Hid (Blk (w.alloc (.cells #[.int .i64 op, .int .i64 xa, .int .i64 xb, .bool s, .string nn, .string d] 40)) p 63 (stC c a b u k lead at_ done)) := hp.alloc _
  have HX : Hid (Blk (w.alloc (.cells #[.int .i64 op, .int .i64 xa, .int .i64 xb, .bool s, .string nn, .string d] 40)) w.heap.size 40 #[.int .i64 op, .int .i64 xa, .int .i64 xb, .bool s, .string nn, .string d]) := Blk.new _ _ _
  have HB : Hid (w.grownBy (w.alloc (.cells #[.int .i64 op, .int .i64 xa, .int .i64 xb, .bool s, .string nn, .string d] 40)) none) := World.grownBy_alloc _ _ _
  have hlt := hp.lt
  have hne : w.heap.size ≠ p := by omega
  clear hp
  have q4 : (w.alloc (.cells #[.int .i64 op, .int .i64 xa, .int .i64 xb, .bool s, .string nn, .string d] 40)).cell? ⟨p, 4, none⟩ = some (.bool b.neg) := HP.out.cell (i := 4) rfl
  have q5 : (w.alloc (.cells #[.int .i64 op, .int .i64 xa, .int .i64 xb, .bool s, .string nn, .string d] 40)).cell? ⟨p, 5, none⟩ = some (.string b.n) := HP.out.cell (i := 5) rfl
  have q6 : (w.alloc (.cells #[.int .i64 op, .int .i64 xa, .int .i64 xb, .bool s, .string nn, .string d] 40)).cell? ⟨p, 6, none⟩ = some (.string b.d) := HP.out.cell (i := 6) rfl
  go_enter Tryz.func40, Tryz.ntmps40
  go_wp2_with (fail)
  have hx0 := HX.out.lt
  generalize (w.alloc (.cells #[.int .i64 op, .int .i64 xa, .int .i64 xb, .bool s, .string nn, .string d] 40)) = W0 at *
  rename Hid (Blk W0 p _ _) => HP0
  rename Hid (Blk W0 w.heap.size _ _) => HX0
  rename Hid (w.grownBy W0 none) => HB0
  refine (HD.out _).mono ?_
  rintro e w1 ⟨rfl, hb⟩
  have HP1 := Lib.hid (HP0.out.under hb)
  have HX1 := Lib.hid (HX0.out.under hb)
  have HB1 := Lib.hid (grownBy_under HB0.out hb)
  clear hb q4 q5 q6
  go_wp2_with (fail)
  refine (mmust_ok _).mono ?_
  rintro e w5 ⟨rfl, hw5⟩
  rw [hw5]
  clear hw5
  have HU3 := Lib.hid (HU.out.kept HB1.out (by cases k.ownBlock <;> simp))
  have HK3 := Lib.hid (HK.out.kept HB1.out (by cases u.ownBlock <;> simp))
  have HS3 : Hid (Side B p w w1) := (Side.refl B p w).grown HB1.out hB (by simp)
  have hW3 : B ≤ w1.heap.size := Nat.le_trans hB HB1.out.size
  have HUW : Hid (∀ kb, k.ownBlock = some kb → kb < w.heap.size) := fun kb h => (HU.out.lt kb h).2
  go_wp2_with (fail)
  have q8 : w1.cell? ⟨p, 8, none⟩ = some k := HP1.out.cell (i := 8) rfl
  refine wp_region_held_drew (S := fun w' => w'.cell? ⟨w.heap.size, 1, none⟩ = some (.int .i64 xa) ∧ w'.cell? ⟨w.heap.size, 2, none⟩ = some (.int .i64 xb)) (by kernel_rfl) ⟨(HX1.out.drew).cell (i := 1) rfl, (HX1.out.drew).cell (i := 2) rfl⟩ (fun hS3 => ?_)
  refine wpAnyH_take (i := 0) (v := ?_) rfl (by kernel_rfl) (by kernel_rfl) (by kernel_rfl) (fun _ _ _ h => h) (Or.inl ⟨by rfl, ?_⟩) (by assumption) ?_
  rotate_left
  · intro w hSw; (try dsimp only at hSw); go_simp; try with_reducible rfl
  try simp only [Act.put, List.setIfInBounds_toArray, List.set_cons_zero, List.set_cons_succ]
  refine wpAnyH_take (i := 1) (v := ?_) rfl (by kernel_rfl) (by kernel_rfl) (by kernel_rfl) (fun _ _ _ h => h) (Or.inl ⟨by rfl, ?_⟩) (by assumption) ?_
  rotate_left
  · intro w hSw; (try dsimp only at hSw); go_simp; try with_reducible rfl
  try simp only [Act.put, List.setIfInBounds_toArray, List.set_cons_zero, List.set_cons_succ]
  refine wpAnyH_take (i := 2) (v := ?_) rfl (by kernel_rfl) (by kernel_rfl) (by kernel_rfl) (fun _ _ _ h => h) (Or.inl ⟨by rfl, ?_⟩) (by assumption) ?_
  rotate_left
  · intro w hSw; (try dsimp only at hSw); go_simp; try with_reducible rfl
  try simp only [Act.put, List.setIfInBounds_toArray, List.set_cons_zero, List.set_cons_succ]
  refine wpAnyH_take (i := 3) (v := ?_) rfl (by kernel_rfl) (by kernel_rfl) (by kernel_rfl) (fun _ _ _ h => h) (Or.inl ⟨by rfl, ?_⟩) (by assumption) ?_
  rotate_left
  · intro w hSw; (try dsimp only at hSw); go_simp; try with_reducible rfl
  try simp only [Act.put, List.setIfInBounds_toArray, List.set_cons_zero, List.set_cons_succ]
  refine wpAnyH_take (i := 5) (v := ?_) rfl (by kernel_rfl) (by kernel_rfl) (by kernel_rfl) (fun _ _ _ h => h) (Or.inl ⟨by rfl, ?_⟩) (by assumption) ?_
  rotate_left
  · intro w hSw; (try dsimp only at hSw); go_simp; try with_reducible rfl
  try simp only [Act.put, List.setIfInBounds_toArray, List.set_cons_zero, List.set_cons_succ]
  refine wpAnyH_take (i := 6) (v := ?_) rfl (by kernel_rfl) (by kernel_rfl) (by kernel_rfl) (fun _ _ _ h => h) (Or.inl ⟨by rfl, ?_⟩) (by assumption) ?_
  rotate_left
  · intro w hSw; (try dsimp only at hSw); go_simp; try with_reducible rfl
  try simp only [Act.put, List.setIfInBounds_toArray, List.set_cons_zero, List.set_cons_succ]
  refine wpAnyH_take (i := 7) (v := ?_) rfl (by kernel_rfl) (by kernel_rfl) (by kernel_rfl) (fun _ _ _ h => h) (Or.inl ⟨by rfl, ?_⟩) (by assumption) ?_
  rotate_left
  · intro w hSw; (try dsimp only at hSw); go_simp; try with_reducible rfl
  try simp only [Act.put, List.setIfInBounds_toArray, List.set_cons_zero, List.set_cons_succ]
  refine wpAnyH_take (i := 8) (v := ?_) rfl (by kernel_rfl) (by kernel_rfl) (by kernel_rfl) (fun _ _ _ h => h) (Or.inl ⟨by rfl, ?_⟩) (by assumption) ?_
  rotate_left
  · intro w hSw; (try dsimp only at hSw); go_simp; try with_reducible rfl
  try simp only [Act.put, List.setIfInBounds_toArray, List.set_cons_zero, List.set_cons_succ]
  refine wpAnyH_take (i := 9) (v := ?_) rfl (by kernel_rfl) (by kernel_rfl) (by kernel_rfl) (fun _ _ _ h => h) (Or.inl ⟨by rfl, ?_⟩) (by assumption) ?_
  rotate_left
  · intro w hSw; (try dsimp only at hSw); go_simp; try with_reducible rfl
  try simp only [Act.put, List.setIfInBounds_toArray, List.set_cons_zero, List.set_cons_succ]
  refine wpAnyH_take (i := 10) (v := ?_) rfl (by kernel_rfl) (by kernel_rfl) (by kernel_rfl) (fun _ _ _ h => h) (Or.inl ⟨by rfl, ?_⟩) (by assumption) ?_
  rotate_left
  · intro w hSw; (try dsimp only at hSw); go_simp; try with_reducible rfl
  try simp only [Act.put, List.setIfInBounds_toArray, List.set_cons_zero, List.set_cons_succ]
  refine wpAnyH_take (i := 11) (v := ?_) rfl (by kernel_rfl) (by kernel_rfl) (by kernel_rfl) (fun _ _ _ h => h) (Or.inl ⟨by rfl, ?_⟩) (by assumption) ?_
  rotate_left
  · intro w hSw; (try dsimp only at hSw); go_simp; try with_reducible rfl
  try simp only [Act.put, List.setIfInBounds_toArray, List.set_cons_zero, List.set_cons_succ]
  refine wpAnyH_ready (rs := [4, 12]) (by kernel_rfl) (by simp) ?_
  refine AllReadyH.cons rfl (fun K hK => ?_) ?_
  · go_simp
    refine hK _ _ ⟨(HX1.out.drew).cell (i := 1) rfl, (HX1.out.drew).cell (i := 2) rfl⟩ (fun hS4 => ?_)
    clear hK K
    refine wpAnyH_ready (rs := [12]) (by kernel_rfl) (by simp) ?_
    refine AllReadyH.cons rfl (fun K hK => ?_) ?_
    · go_simp
      have HP4 := Lib.hid (HP1.out.drew.alloc (.cells #[.int .i64 xa, .int .i64 M] 60))
      have HX4 := Lib.hid (HX1.out.drew.alloc (.cells #[.int .i64 xa, .int .i64 M] 60))
      have HU4 : Hid (World.ownsRow (w1.drew.alloc (.cells #[.int .i64 xa, .int .i64 M] 60)) B 60 2 k n us) := HU3.out.alloc (w := w1.drew) _
      have HK4 : Hid (World.ownsRow (w1.drew.alloc (.cells #[.int .i64 xa, .int .i64 M] 60)) B 58 6 u m ws) := HK3.out.alloc (w := w1.drew) _
      have HS4 := Lib.hid (HS3.out.drew.alloc hW3 (.cells #[.int .i64 xa, .int .i64 M] 60))
      have HW4 : Hid (B ≤ (w1.drew.alloc (.cells #[.int .i64 xa, .int .i64 M] 60)).heap.size) := by have h : B ≤ w1.heap.size := hW3; show _ ≤ _; simp; exact Nat.le_succ_of_le h
      refine hK _ _ ⟨(HX4.out).cell (i := 1) rfl, (HX4.out).cell (i := 2) rfl⟩ (fun hS5 => ?_)
      clear hK K
      refine wpAnyH_ready (rs := [13]) (by kernel_rfl) (by simp) ?_
      refine AllReadyH.cons rfl (fun K hK => ?_) ?_
      · refine step_append_lies _ rfl (.tmp 23) (.tmp 31) 30 rfl B 60 iu _ 2 16 Tryz.underlying30 HI.out HZ0.out HZ1.out HZ2.out rfl (by decide) k n us (by simp [Act.eval]) HU4.out ⟨w1.heap.size, 0, none⟩ 1 1 [.int .i64 xa, .int .i64 M] (by simp [Act.eval]) rfl (World.news_of_block (Blk.new w1.drew _ _)) (by simp [Value.oneCell']) (by decide) (by unfold maxLen; omega) (by omega) HW4.out _ rfl ?_
        intro gg cap w5 hown hgrow hat hlt5
        have HU5 := Lib.hid hown
        have HP5 := Lib.hid (HP4.out.kept hgrow (ne_row HU4.out hpB))
        have HK5 := Lib.hid (HK4.out.kept hgrow (rows_ne HAP.out))
        have HAP5 : Hid (Value.ownBlock (.slice (some ⟨gg, 0, none⟩) (n + 1) cap) ≠ u.ownBlock) := rows_apart HK4.out rfl HAP.out hat
        have HX5 := Lib.hid (HX4.out.kept hgrow (fun he => by have := HUW.out _ he.symm; omega))
        have HS5 := Lib.hid (HS4.out.grown hgrow HW4.out (row_low HU4.out))
        have q8 := HP5.out.cell (i := 8) rfl
        have fq := HP5.out.frozen
        clear hown hgrow hat
        refine hK _ _ ⟨(HX5.out).cell (i := 1) rfl, (HX5.out).cell (i := 2) rfl⟩ (fun hS6 => ?_)
        clear hK K
        refine wpAnyH_take (i := 14) (v := ?_) rfl (by kernel_rfl) (by kernel_rfl) (by kernel_rfl) (fun _ _ _ h => h) (Or.inl ⟨by rfl, ?_⟩) (by assumption) ?_
        rotate_left
        · intro w hSw; (try dsimp only at hSw); go_simp; try with_reducible rfl
        try simp only [Act.put, List.setIfInBounds_toArray, List.set_cons_zero, List.set_cons_succ]
        refine wpAnyH_take (i := 15) (v := ?_) rfl (by kernel_rfl) (by kernel_rfl) (by kernel_rfl) (fun _ _ _ h => h) (Or.inl ⟨by rfl, ?_⟩) (by assumption) ?_
        rotate_left
        · intro w hSw; (try dsimp only at hSw); go_simp; try with_reducible rfl
        try simp only [Act.put, List.setIfInBounds_toArray, List.set_cons_zero, List.set_cons_succ]
        refine wpAnyH_ready (rs := [16]) (by kernel_rfl) (by simp) ?_
        refine AllReadyH.cons rfl (fun K hK => ?_) ?_
        · go_simp
          refine hK _ _ ⟨(HX5.out.other _ hne).cell (i := 1) rfl, (HX5.out.other _ hne).cell (i := 2) rfl⟩ (fun hS7 => ?_)
          clear hK K
          refine wpAnyH_done (by kernel_rfl) ?_ _
          go_wp2
          go_end0
          exact ⟨rfl, _, HP5.out.set (i := 8) _, HU5.out.kept (grownBy_set _ _ _ _) (.inr (by have := ne_row HU5.out hpB; exact fun h => this h.symm)), HK5.out.kept (grownBy_set _ _ _ _) (.inr (by have := ne_row HK5.out hpB; exact fun h => this h.symm)), HAP5.out, HS5.out.set _ _⟩
        exact AllReadyH.nil
      exact AllReadyH.nil
    exact AllReadyH.nil
  refine AllReadyH.cons rfl (fun K hK => ?_) ?_
  · go_simp
    have HP4 := Lib.hid (HP1.out.drew.alloc (.cells #[.int .i64 xa, .int .i64 M] 60))
    have HX4 := Lib.hid (HX1.out.drew.alloc (.cells #[.int .i64 xa, .int .i64 M] 60))
    have HU4 : Hid (World.ownsRow (w1.drew.alloc (.cells #[.int .i64 xa, .int .i64 M] 60)) B 60 2 k n us) := HU3.out.alloc (w := w1.drew) _
    have HK4 : Hid (World.ownsRow (w1.drew.alloc (.cells #[.int .i64 xa, .int .i64 M] 60)) B 58 6 u m ws) := HK3.out.alloc (w := w1.drew) _
    have HS4 := Lib.hid (HS3.out.drew.alloc hW3 (.cells #[.int .i64 xa, .int .i64 M] 60))
    have HW4 : Hid (B ≤ (w1.drew.alloc (.cells #[.int .i64 xa, .int .i64 M] 60)).heap.size) := by have h : B ≤ w1.heap.size := hW3; show _ ≤ _; simp; exact Nat.le_succ_of_le h
    refine hK _ _ ⟨(HX4.out).cell (i := 1) rfl, (HX4.out).cell (i := 2) rfl⟩ (fun hS5 => ?_)
    clear hK K
    have q8 : (w1.alloc (.cells #[.int .i64 xa, .int .i64 M] 60)).cell? ⟨p, 8, none⟩ = some k := (HP1.out.alloc (.cells #[.int .i64 xa, .int .i64 M] 60)).cell (i := 8) rfl
    refine wpAnyH_ready (rs := [4]) (by kernel_rfl) (by simp) ?_
    refine AllReadyH.cons rfl (fun K hK => ?_) ?_
    · go_simp
      refine hK _ _ ⟨(HX4.out).cell (i := 1) rfl, (HX4.out).cell (i := 2) rfl⟩ (fun hS4 => ?_)
      clear hK K
      refine wpAnyH_ready (rs := [13]) (by kernel_rfl) (by simp) ?_
      refine AllReadyH.cons rfl (fun K hK => ?_) ?_
      · refine step_append_lies _ rfl (.tmp 23) (.tmp 31) 30 rfl B 60 iu _ 2 16 Tryz.underlying30 HI.out HZ0.out HZ1.out HZ2.out rfl (by decide) k n us (by simp [Act.eval]) HU4.out ⟨w1.heap.size, 0, none⟩ 1 1 [.int .i64 xa, .int .i64 M] (by simp [Act.eval]) rfl (World.news_of_block (Blk.new w1.drew _ _)) (by simp [Value.oneCell']) (by decide) (by unfold maxLen; omega) (by omega) HW4.out _ rfl ?_
        intro gg cap w5 hown hgrow hat hlt5
        have HU5 := Lib.hid hown
        have HP5 := Lib.hid (HP4.out.kept hgrow (ne_row HU4.out hpB))
        have HK5 := Lib.hid (HK4.out.kept hgrow (rows_ne HAP.out))
        have HAP5 : Hid (Value.ownBlock (.slice (some ⟨gg, 0, none⟩) (n + 1) cap) ≠ u.ownBlock) := rows_apart HK4.out rfl HAP.out hat
        have HX5 := Lib.hid (HX4.out.kept hgrow (fun he => by have := HUW.out _ he.symm; omega))
        have HS5 := Lib.hid (HS4.out.grown hgrow HW4.out (row_low HU4.out))
        have q8 := HP5.out.cell (i := 8) rfl
        have fq := HP5.out.frozen
        clear hown hgrow hat
        refine hK _ _ ⟨(HX5.out).cell (i := 1) rfl, (HX5.out).cell (i := 2) rfl⟩ (fun hS6 => ?_)
        clear hK K
        refine wpAnyH_take (i := 14) (v := ?_) rfl (by kernel_rfl) (by kernel_rfl) (by kernel_rfl) (fun _ _ _ h => h) (Or.inl ⟨by rfl, ?_⟩) (by assumption) ?_
        rotate_left
        · intro w hSw; (try dsimp only at hSw); go_simp; try with_reducible rfl
        try simp only [Act.put, List.setIfInBounds_toArray, List.set_cons_zero, List.set_cons_succ]
        refine wpAnyH_take (i := 15) (v := ?_) rfl (by kernel_rfl) (by kernel_rfl) (by kernel_rfl) (fun _ _ _ h => h) (Or.inl ⟨by rfl, ?_⟩) (by assumption) ?_
        rotate_left
        · intro w hSw; (try dsimp only at hSw); go_simp; try with_reducible rfl
        try simp only [Act.put, List.setIfInBounds_toArray, List.set_cons_zero, List.set_cons_succ]
        refine wpAnyH_ready (rs := [16]) (by kernel_rfl) (by simp) ?_
        refine AllReadyH.cons rfl (fun K hK => ?_) ?_
        · go_simp
          refine hK _ _ ⟨(HX5.out.other _ hne).cell (i := 1) rfl, (HX5.out.other _ hne).cell (i := 2) rfl⟩ (fun hS7 => ?_)
          clear hK K
          refine wpAnyH_done (by kernel_rfl) ?_ _
          go_wp2
          go_end0
          exact ⟨rfl, _, HP5.out.set (i := 8) _, HU5.out.kept (grownBy_set _ _ _ _) (.inr (by have := ne_row HU5.out hpB; exact fun h => this h.symm)), HK5.out.kept (grownBy_set _ _ _ _) (.inr (by have := ne_row HK5.out hpB; exact fun h => this h.symm)), HAP5.out, HS5.out.set _ _⟩
        exact AllReadyH.nil
      exact AllReadyH.nil
    exact AllReadyH.nil
  exact AllReadyH.nil

set_option maxRecDepth 100000 in
set_option maxHeartbeats 1000000 in
theorem end_any (op xa xb : Int) (s : Bool) (nn d : ByteArray) (p : Nat) (c : Value) (a b : RV) (u k : Value) (lead at_ : Int) (done : Bool) (w : World) (hp : Blk w p 63 (stC c a b u k lead at_ done)) :
    Calls Tryz.prog 41 #[.pointer (some ⟨p, 0, none⟩), .agg #[.int .i64 op, .int .i64 xa, .int .i64 xb, .bool s, .string nn, .string d]] w fun e w' => e = .returned (.tuple #[]) ∧ Blk w' p 63 (stC c a b u k lead at_ true) ∧ w.grownBy w' (some p) := by
  have q11 := (hp.alloc (.cells #[.int .i64 op, .int .i64 xa, .int .i64 xb, .bool s, .string nn, .string d] 40)).cell (i := 11) rfl
  have fq := (hp.alloc (.cells #[.int .i64 op, .int .i64 xa, .int .i64 xb, .bool s, .string nn, .string d] 40)).frozen
  have hlt := hp.lt
  have hne : w.heap.size ≠ p := by omega
  have HP := Lib.hid hp
  clear hp
  go_enter Tryz.func41, Tryz.ntmps41
  go_wp2
  go_end0
  exact ⟨rfl, (HP.out.set (i := 11) (.bool true)).alloc _, grownBy_trans (grownBy_set _ _ _ _) (World.grownBy_alloc _ _ _)⟩

set_option maxRecDepth 100000 in
theorem fail_any (op xa xb : Int) (s : Bool) (nn d : ByteArray) (p : Value) (w : World) :
    Calls Tryz.prog 42 #[p, .agg #[.int .i64 op, .int .i64 xa, .int .i64 xb, .bool s, .string nn, .string d]] w fun e w' => e = .panicked (errv 160) ∧ w.grownBy w' none := by
  go_enter Tryz.func42, Tryz.ntmps42
  go_wp2_with (fail)
  refine (mmust_bad 160 rfl _).mono ?_
  rintro e w5 ⟨rfl, hw5⟩
  exact ⟨rfl, rfl, by rw [hw5]; exact World.grownBy_alloc _ _ _⟩
end Go.Proofs.YteggbpaljmopoaaGreat
/- machine: operations, the deferred function of Run. -/
namespace Go.Proofs.YteggbpaljmopoaaGreat
open Go.RowKit BF

def opsV : Array Value := #[.nilFunc, .func (.func 36) #[] #[], .func (.func 37) #[] #[], .func (.func 38) #[] #[], .func (.func 39) #[] #[], .func (.func 39) #[] #[], .func (.func 40) #[] #[], .func (.func 41) #[] #[], .func (.func 42) #[] #[]]

set_option maxRecDepth 100000 in
set_option maxHeartbeats 1000000 in
theorem moperations_any (w : World) : Calls Tryz.prog 20 #[] w fun e w' => e = .returned (.agg opsV) ∧ Below w.heap.size w w' := by
  unfold opsV
  go_enter Tryz.func20, Tryz.ntmps20
  go_wp2
  have HF := Blk.new w 68 opsV
  unfold opsV at HF
  have e0 := HF.cell (i := 0) rfl
  have e1 := HF.cell (i := 1) rfl
  have e2 := HF.cell (i := 2) rfl
  have e3 := HF.cell (i := 3) rfl
  have e4 := HF.cell (i := 4) rfl
  have e5 := HF.cell (i := 5) rfl
  have e6 := HF.cell (i := 6) rfl
  have e7 := HF.cell (i := 7) rfl
  have e8 := HF.cell (i := 8) rfl
  refine bodyPost_ret (v := .agg opsV) ?_ rfl ⟨rfl, (Below.refl _ w).alloc (Nat.le_refl _) _⟩
  unfold opsV
  simp [results, Tryz.results20, go_sem, e0, e1, e2, e3, e4, e5, e6, e7, e8]

theorem assert_errno (W : World) (n : Int) : (Instr.typeAssert (.iface 31 (.int .i64 n)) 20 31 false).run Tryz.prog W = .ok (.int .i64 n) W := by kernel_rfl

/-- the cells of the five results -/
def ResAt (w : World) (g : Nat) (u k : Value) (lead left e : Int) : Prop :=
  Blk w g 29 #[u] ∧ Blk w (g + 1) 30 #[k] ∧ Blk w (g + 1 + 1) 3 #[.int .i64 lead] ∧ Blk w (g + 1 + 1 + 1) 3 #[.int .i64 left] ∧ Blk w (g + 1 + 1 + 1 + 1) 31 #[.int .i64 e]
def resPtrs (g : Nat) : Array Value := #[.pointer (some ⟨g, 0, none⟩), .pointer (some ⟨g + 1, 0, none⟩), .pointer (some ⟨g + 1 + 1, 0, none⟩), .pointer (some ⟨g + 1 + 1 + 1, 0, none⟩), .pointer (some ⟨g + 1 + 1 + 1 + 1, 0, none⟩)]

/-- the deferred function of Run, where nothing has panicked -/
theorem run_idle (g : Nat) (w : World) :
    CallsD Tryz.prog 17 (resPtrs g) .returning w fun e u' w' => e = .returned (.tuple #[]) ∧ u' = .returning ∧ w' = w := by
  refine callsD_of_wpS Tryz.func17 rfl fun c₀ cs hu => ?_
  apply wpS_seq
  apply wpS_region
  simp [wpOpsS, go_sem, recoverD, hu, Tryz.ntmps17, Exit.thenS, resPtrs]
  apply wpS_seq
  apply wpS_region
  simp [wpOpsS, go_sem, Exit.thenS]
  refine wpS_cond (t := false) (by simp [Act.eval, Array.replicate]) ?_
  simp only [Bool.false_eq_true, if_false]
  refine wpS_of_wp (wp_skip ?_)
  cases c₀
  simp_all [bodyPostS, results, Tryz.results17]

/-- the deferred function of Run, where there was a panic with an error -/
theorem run_caught (n : Int) (g B p : Nat) (u k : Value) (lead left e0 : Int) (older : List PanicEntry) (w : World) (hr : ResAt w g u k lead left e0) :
    CallsD Tryz.prog 17 (resPtrs g) (.panicking ({ v := .iface 31 (.int .i64 n), recovered := false } :: older)) w
      fun e u' w' => e = .returned (.tuple #[]) ∧ u' = .panicking ({ v := .iface 31 (.int .i64 n), recovered := true } :: older) ∧ ResAt w' g (.slice none 0 0) (.slice none 0 0) 0 0 n ∧ (∀ B, B ≤ g → Below B w w') := by
  obtain ⟨h0, h1, h2, h3, h4⟩ := hr
  have c0 := h0.cell (i := 0) rfl
  have c1 := h1.cell (i := 0) rfl
  have c2 := h2.cell (i := 0) rfl
  have c3 := h3.cell (i := 0) rfl
  have c4 := h4.cell (i := 0) rfl
  have f0 := h0.frozen
  have f1 := h1.frozen
  have f2 := h2.frozen
  have f3 := h3.frozen
  have f4 := h4.frozen
  have ha := assert_errno
  refine callsD_of_wpS Tryz.func17 rfl fun c₀ cs hu => ?_
  apply wpS_seq
  apply wpS_region
  simp [wpOpsS, go_sem, recoverD, hu, Tryz.ntmps17, Exit.thenS, resPtrs]
  apply wpS_seq
  apply wpS_region
  simp [wpOpsS, go_sem, Exit.thenS]
  refine wpS_cond (t := true) (by simp [Act.eval, Array.replicate]) ?_
  simp only [if_true]
  refine wpS_of_wp ?_
  simp [Array.replicate]
  go_region
  have H0 : Blk (((((w.setCell ⟨g, 0, none⟩ (.slice none 0 0)).setCell ⟨g + 1, 0, none⟩ (.slice none 0 0)).setCell ⟨g + 1 + 1, 0, none⟩ (.int .i64 0)).setCell ⟨g + 1 + 1 + 1, 0, none⟩ (.int .i64 0)).setCell ⟨g + 1 + 1 + 1 + 1, 0, none⟩ (.int .i64 n)).drew g 29 #[.slice none 0 0] := (((((h0.set (i := 0) _).other _ (by omega)).other _ (by omega)).other _ (by omega)).other _ (by omega)).drew
  have H1 : Blk (((((w.setCell ⟨g, 0, none⟩ (.slice none 0 0)).setCell ⟨g + 1, 0, none⟩ (.slice none 0 0)).setCell ⟨g + 1 + 1, 0, none⟩ (.int .i64 0)).setCell ⟨g + 1 + 1 + 1, 0, none⟩ (.int .i64 0)).setCell ⟨g + 1 + 1 + 1 + 1, 0, none⟩ (.int .i64 n)).drew (g + 1) 30 #[.slice none 0 0] := (((((h1.other _ (by omega)).set (i := 0) _).other _ (by omega)).other _ (by omega)).other _ (by omega)).drew
  have H2 : Blk (((((w.setCell ⟨g, 0, none⟩ (.slice none 0 0)).setCell ⟨g + 1, 0, none⟩ (.slice none 0 0)).setCell ⟨g + 1 + 1, 0, none⟩ (.int .i64 0)).setCell ⟨g + 1 + 1 + 1, 0, none⟩ (.int .i64 0)).setCell ⟨g + 1 + 1 + 1 + 1, 0, none⟩ (.int .i64 n)).drew (g + 1 + 1) 3 #[.int .i64 0] := (((((h2.other _ (by omega)).other _ (by omega)).set (i := 0) _).other _ (by omega)).other _ (by omega)).drew
  have H3 : Blk (((((w.setCell ⟨g, 0, none⟩ (.slice none 0 0)).setCell ⟨g + 1, 0, none⟩ (.slice none 0 0)).setCell ⟨g + 1 + 1, 0, none⟩ (.int .i64 0)).setCell ⟨g + 1 + 1 + 1, 0, none⟩ (.int .i64 0)).setCell ⟨g + 1 + 1 + 1 + 1, 0, none⟩ (.int .i64 n)).drew (g + 1 + 1 + 1) 3 #[.int .i64 0] := (((((h3.other _ (by omega)).other _ (by omega)).other _ (by omega)).set (i := 0) _).other _ (by omega)).drew
  have H4 : Blk (((((w.setCell ⟨g, 0, none⟩ (.slice none 0 0)).setCell ⟨g + 1, 0, none⟩ (.slice none 0 0)).setCell ⟨g + 1 + 1, 0, none⟩ (.int .i64 0)).setCell ⟨g + 1 + 1 + 1, 0, none⟩ (.int .i64 0)).setCell ⟨g + 1 + 1 + 1 + 1, 0, none⟩ (.int .i64 n)).drew (g + 1 + 1 + 1 + 1) 31 #[.int .i64 n] := (((((h4.other _ (by omega)).other _ (by omega)).other _ (by omega)).other _ (by omega)).set (i := 0) _).drew
  have HB : ∀ B, B ≤ g → Below B w (((((w.setCell ⟨g, 0, none⟩ (.slice none 0 0)).setCell ⟨g + 1, 0, none⟩ (.slice none 0 0)).setCell ⟨g + 1 + 1, 0, none⟩ (.int .i64 0)).setCell ⟨g + 1 + 1 + 1, 0, none⟩ (.int .i64 0)).setCell ⟨g + 1 + 1 + 1 + 1, 0, none⟩ (.int .i64 n)).drew := fun B hB =>
    ((((((Below.refl B w).setCell (by simp; omega) _).setCell (by simp; omega) _).setCell (by simp; omega) _).setCell (by simp; omega) _).setCell (by simp; omega) _).drew
  have HR : ResAt _ g (.slice none 0 0) (.slice none 0 0) 0 0 n := ⟨H0, H1, H2, H3, H4⟩
  clear H0 H1 H2 H3 H4 h0 h1 h2 h3 h4 c0 c1 c2 c3 c4 f0 f1 f2 f3 f4 ha
  generalize (((((w.setCell ⟨g, 0, none⟩ (.slice none 0 0)).setCell ⟨g + 1, 0, none⟩ (.slice none 0 0)).setCell ⟨g + 1 + 1, 0, none⟩ (.int .i64 0)).setCell ⟨g + 1 + 1 + 1, 0, none⟩ (.int .i64 0)).setCell ⟨g + 1 + 1 + 1 + 1, 0, none⟩ (.int .i64 n)).drew = W2 at *
  dsimp only
  cases c₀
  dsimp only at hu
  subst hu
  have HRX := Lib.hid (And.intro HR HB)
  clear HR HB
  simp [bodyPostS, results, Tryz.results17]
  exact HRX.out
end Go.Proofs.YteggbpaljmopoaaGreat
/- machine.Run: what ends early. -/
namespace Go.Proofs.YteggbpaljmopoaaGreat
open Go.RowKit BF

def runErr (k : Int) : Value := .tuple #[.slice none 0 0, .slice none 0 0, .int .i64 0, .int .i64 0, .int .i64 k]

theorem run_boxes (w : World) (a : RV) : ∃ W, (((((w.alloc (.cells #[.bool a.neg, .string a.n, .string a.d] 25)).alloc (.cells #[.slice none 0 0] 29)).alloc (.cells #[.slice none 0 0] 30)).alloc (.cells #[.int .i64 0] 3)).alloc (.cells #[.int .i64 0] 3)).alloc (.cells #[.int .i64 0] 31) = W ∧
    Hid (Blk W w.heap.size 25 #[.bool a.neg, .string a.n, .string a.d]) ∧ Hid (ResAt W (w.heap.size + 1) (.slice none 0 0) (.slice none 0 0) 0 0 0) ∧ Hid (Below w.heap.size w W) :=
  ⟨_, rfl, (((((Blk.new w _ _).alloc _).alloc _).alloc _).alloc _).alloc _,
    ⟨((((Blk.new' _ _ _ _ (by simp)).alloc _).alloc _).alloc _).alloc _, (((Blk.new' _ _ _ _ (by simp)).alloc _).alloc _).alloc _, ((Blk.new' _ _ _ _ (by simp)).alloc _).alloc _, (Blk.new' _ _ _ _ (by simp)).alloc _, Blk.new' _ _ _ _ (by simp)⟩,
    ((((((Below.refl _ w).alloc (Nat.le_refl _) _).alloc (by simp) _).alloc (by simp; omega) _).alloc (by simp; omega) _).alloc (by simp; omega) _).alloc (by simp; omega) _⟩
theorem ResAt.under {W W' : World} {g : Nat} {u k : Value} {lead left e : Int} (h : ResAt W g u k lead left e) (hb : Below W.heap.size W W') : ResAt W' g u k lead left e :=
  ⟨h.1.under hb, h.2.1.under hb, h.2.2.1.under hb, h.2.2.2.1.under hb, h.2.2.2.2.under hb⟩

/-- five stores into the results -/
theorem res_fill {W : World} {g : Nat} {u k : Value} {lead left e : Int} (h : ResAt W g u k lead left e) (u2 k2 : Value) (l2 f2 e2 : Int) : ∃ W2, ((((W.setCell ⟨g, 0, none⟩ u2).setCell ⟨g + 1, 0, none⟩ k2).setCell ⟨g + 1 + 1, 0, none⟩ (.int .i64 l2)).setCell ⟨g + 1 + 1 + 1, 0, none⟩ (.int .i64 f2)).setCell ⟨g + 1 + 1 + 1 + 1, 0, none⟩ (.int .i64 e2) = W2 ∧
    Hid (ResAt W2 g u2 k2 l2 f2 e2) ∧ Hid (∀ B, B ≤ g → Below B W W2) := by
  obtain ⟨h0, h1, h2, h3, h4⟩ := h
  refine ⟨_, rfl, ⟨?_, ?_, ?_, ?_, ?_⟩, fun B hB => (((((Below.refl B W).setCell (by simp; omega) _).setCell (by simp; omega) _).setCell (by simp; omega) _).setCell (by simp; omega) _).setCell (by simp; omega) _⟩
  · exact ((((h0.set (i := 0) _).other _ (by omega)).other _ (by omega)).other _ (by omega)).other _ (by omega)
  · exact ((((h1.other _ (by omega)).set (i := 0) _).other _ (by omega)).other _ (by omega)).other _ (by omega)
  · exact ((((h2.other _ (by omega)).other _ (by omega)).set (i := 0) _).other _ (by omega)).other _ (by omega)
  · exact ((((h3.other _ (by omega)).other _ (by omega)).other _ (by omega)).set (i := 0) _).other _ (by omega)
  · exact ((((h4.other _ (by omega)).other _ (by omega)).other _ (by omega)).other _ (by omega)).set (i := 0) _

set_option maxRecDepth 100000 in
set_option maxHeartbeats 1000000 in
theorem run_bad1 (cv sv : Value) (a : RV) (fuel E : Int) (hE : (E != 0) = true) (w : World)
    (HC : Hid (∀ w1, Below w.heap.size w w1 → Calls Tryz.prog 9 #[cv] w1 fun e w' => e = .returned (.int .i64 E) ∧ Below w1.heap.size w1 w')) :
    Calls Tryz.prog 7 #[cv, sv, .agg #[.bool a.neg, .string a.n, .string a.d], .int .i64 fuel] w fun e w' => e = .returned (runErr E) ∧ Below w.heap.size w w' := by
  obtain ⟨W0, hW0, HA, HR, HW⟩ := run_boxes w a
  go_enter_defers Tryz.func7, Tryz.ntmps7
  go_wp2_with (fail)
  refine (HC.out _ HW.out).mono ?_
  rintro e w1 ⟨rfl, hb⟩
  have HR1 := Lib.hid (HR.out.under hb)
  have HW1 := Lib.hid (HW.out.trans (hb.mono HW.out.size))
  clear hb hW0
  have c0 := HR1.out.1.cell (i := 0) rfl
  have c1 := HR1.out.2.1.cell (i := 0) rfl
  have c2 := HR1.out.2.2.1.cell (i := 0) rfl
  have c3 := HR1.out.2.2.2.1.cell (i := 0) rfl
  have c4 := HR1.out.2.2.2.2.cell (i := 0) rfl
  have f0 := HR1.out.1.frozen
  have f1 := HR1.out.2.1.frozen
  have f2 := HR1.out.2.2.1.frozen
  have f3 := HR1.out.2.2.2.1.frozen
  have f4 := HR1.out.2.2.2.2.frozen
  go_wp2
  obtain ⟨W2, hW2, HR2, HW2⟩ := res_fill HR1.out (.slice none 0 0) (.slice none 0 0) 0 0 E
  rw [hW2]
  clear hW2 c0 c1 c2 c3 c4 f0 f1 f2 f3 f4
  have c0 := HR2.out.1.cell (i := 0) rfl
  have c1 := HR2.out.2.1.cell (i := 0) rfl
  have c2 := HR2.out.2.2.1.cell (i := 0) rfl
  have c3 := HR2.out.2.2.2.1.cell (i := 0) rfl
  have c4 := HR2.out.2.2.2.2.cell (i := 0) rfl
  have HWF := Lib.hid (HW1.out.trans (HW2.out w.heap.size (Nat.le_succ _)))
  simp [bodyPostD, Leaves, results, Tryz.results7, go_sem, c0, c1, c2, c3, c4, runErr, HWF.out]

set_option maxRecDepth 100000 in
set_option maxHeartbeats 1000000 in
theorem run_bad2 (cv sv : Value) (a : RV) (fuel : Int) (w : World)
    (HC : Hid (∀ w1, Below w.heap.size w w1 → Calls Tryz.prog 9 #[cv] w1 fun e w' => e = .returned (.int .i64 0) ∧ Below w1.heap.size w1 w'))
    (HA2 : Hid (∀ w : World, Calls Tryz.prog 16 #[.agg #[.bool a.neg, .string a.n, .string a.d]] w fun e w' => e = .returned (.int .i64 70) ∧ Below w.heap.size w w')) :
    Calls Tryz.prog 7 #[cv, sv, .agg #[.bool a.neg, .string a.n, .string a.d], .int .i64 fuel] w fun e w' => e = .returned (runErr 70) ∧ Below w.heap.size w w' := by
  obtain ⟨W0, hW0, HA, HR, HW⟩ := run_boxes w a
  go_enter_defers Tryz.func7, Tryz.ntmps7
  go_wp2_with (fail)
  refine (HC.out _ HW.out).mono ?_
  rintro e w1 ⟨rfl, hb⟩
  have HA1 := Lib.hid (HA.out.under hb)
  have HR1 := Lib.hid (HR.out.under hb)
  have HW1 := Lib.hid (HW.out.trans (hb.mono HW.out.size))
  clear hb hW0
  have a0 := HA1.out.cell (i := 0) rfl
  have a1 := HA1.out.cell (i := 1) rfl
  have a2 := HA1.out.cell (i := 2) rfl
  go_wp2_with (fail)
  refine (HA2.out _).mono ?_
  rintro e w2 ⟨rfl, hb⟩
  have HR3 := Lib.hid (HR1.out.under hb)
  have HW3 := Lib.hid (HW1.out.trans (hb.mono HW1.out.size))
  clear hb a0 a1 a2
  have c0 := HR3.out.1.cell (i := 0) rfl
  have c1 := HR3.out.2.1.cell (i := 0) rfl
  have c2 := HR3.out.2.2.1.cell (i := 0) rfl
  have c3 := HR3.out.2.2.2.1.cell (i := 0) rfl
  have c4 := HR3.out.2.2.2.2.cell (i := 0) rfl
  have f0 := HR3.out.1.frozen
  have f1 := HR3.out.2.1.frozen
  have f2 := HR3.out.2.2.1.frozen
  have f3 := HR3.out.2.2.2.1.frozen
  have f4 := HR3.out.2.2.2.2.frozen
  go_wp2
  obtain ⟨W2, hW2, HR2, HW2⟩ := res_fill HR3.out (.slice none 0 0) (.slice none 0 0) 0 0 70
  rw [hW2]
  clear hW2 c0 c1 c2 c3 c4 f0 f1 f2 f3 f4
  have c0 := HR2.out.1.cell (i := 0) rfl
  have c1 := HR2.out.2.1.cell (i := 0) rfl
  have c2 := HR2.out.2.2.1.cell (i := 0) rfl
  have c3 := HR2.out.2.2.2.1.cell (i := 0) rfl
  have c4 := HR2.out.2.2.2.2.cell (i := 0) rfl
  have HWF := Lib.hid (HW3.out.trans (HW2.out w.heap.size (Nat.le_succ _)))
  simp [bodyPostD, Leaves, results, Tryz.results7, go_sem, c0, c1, c2, c3, c4, runErr, HWF.out]

set_option maxRecDepth 100000 in
set_option maxHeartbeats 1000000 in
theorem run_bad3 (cv : Value) (pc : Option Addr) (n cap : Nat) (a : RV) (fuel : Int) (w : World) (hbad : a.neg = true ∨ a.neg = false ∧ ((n : Int) == 0) = true ∨ a.neg = false ∧ ((n : Int) == 0) = false ∧ fuel < 0)
    (HC : Hid (∀ w1, Below w.heap.size w w1 → Calls Tryz.prog 9 #[cv] w1 fun e w' => e = .returned (.int .i64 0) ∧ Below w1.heap.size w1 w'))
    (HA2 : Hid (∀ w : World, Calls Tryz.prog 16 #[.agg #[.bool a.neg, .string a.n, .string a.d]] w fun e w' => e = .returned (.int .i64 0) ∧ Below w.heap.size w w')) :
    Calls Tryz.prog 7 #[cv, .slice pc n cap, .agg #[.bool a.neg, .string a.n, .string a.d], .int .i64 fuel] w fun e w' => e = .returned (runErr 1) ∧ Below w.heap.size w w' := by
  obtain ⟨W0, hW0, HA, HR, HW⟩ := run_boxes w a
  go_enter_defers Tryz.func7, Tryz.ntmps7
  go_wp2_with (fail)
  refine (HC.out _ HW.out).mono ?_
  rintro e w1 ⟨rfl, hb⟩
  have HA1 := Lib.hid (HA.out.under hb)
  have HR1 := Lib.hid (HR.out.under hb)
  have HW1 := Lib.hid (HW.out.trans (hb.mono HW.out.size))
  clear hb hW0
  have a0 := HA1.out.cell (i := 0) rfl
  have a1 := HA1.out.cell (i := 1) rfl
  have a2 := HA1.out.cell (i := 2) rfl
  go_wp2_with (fail)
  refine (HA2.out _).mono ?_
  rintro e w2 ⟨rfl, hb⟩
  have HA3 := Lib.hid (HA1.out.under hb)
  have HR3 := Lib.hid (HR1.out.under hb)
  have HW3 := Lib.hid (HW1.out.trans (hb.mono HW1.out.size))
  clear hb a0 a1 a2
  have a0 := HA3.out.cell (i := 0) rfl
  have c0 := HR3.out.1.cell (i := 0) rfl
  have c1 := HR3.out.2.1.cell (i := 0) rfl
  have c2 := HR3.out.2.2.1.cell (i := 0) rfl
  have c3 := HR3.out.2.2.2.1.cell (i := 0) rfl
  have c4 := HR3.out.2.2.2.2.cell (i := 0) rfl
  have f0 := HR3.out.1.frozen
  have f1 := HR3.out.2.1.frozen
  have f2 := HR3.out.2.2.1.frozen
  have f3 := HR3.out.2.2.2.1.frozen
  have f4 := HR3.out.2.2.2.2.frozen
  rcases hbad with hneg | ⟨hneg, hn⟩ | ⟨hneg, hn, hf⟩
  all_goals
    have a9 : w2.cell? ⟨w.heap.size, 0, none⟩ = some (.bool a.neg) := a0
    rw [hneg] at a9
    clear a0
    go_wp2
    obtain ⟨W2, hW2, HR2, HW2⟩ := res_fill HR3.out (.slice none 0 0) (.slice none 0 0) 0 0 1
    rw [hW2]
    clear hW2 c0 c1 c2 c3 c4 f0 f1 f2 f3 f4
    have c0 := HR2.out.1.cell (i := 0) rfl
    have c1 := HR2.out.2.1.cell (i := 0) rfl
    have c2 := HR2.out.2.2.1.cell (i := 0) rfl
    have c3 := HR2.out.2.2.2.1.cell (i := 0) rfl
    have c4 := HR2.out.2.2.2.2.cell (i := 0) rfl
    have HWF := Lib.hid (HW3.out.trans (HW2.out w.heap.size (Nat.le_succ _)))
    simp [bodyPostD, Leaves, results, Tryz.results7, go_sem, c0, c1, c2, c3, c4, runErr, HWF.out]
end Go.Proofs.YteggbpaljmopoaaGreat
/- machine: a run in plain terms. -/
namespace Go.Proofs.YteggbpaljmopoaaGreat
open Go.RowKit BF

def holdsM (cs : List Int) (x : Ins) : Bool :=
  if x.a = -1 then decide (x.b ≤ cs.getD (cs.length - 1) 0)
  else if x.a = -2 then decide (cs.getD (cs.length - 1) 0 < x.b)
  else decide (x.a < (cs.length : Int) - 1) && decide (cs.getD x.a.toNat 0 = x.b)
def stepM (cs : List Int) (am : RV) (x : Ins) (s : MS) : Except Int MS :=
  if x.op = 1 then .ok { s with at_ := if holdsM cs x then s.at_ + 1 else s.at_ }
  else if x.op = 2 then .ok { s with at_ := s.at_ + x.a }
  else if x.op = 3 then (if (divR am x.r).2 = 0 then .ok { s with b := (divR am x.r).1, lead := x.b } else .error (divR am x.r).2)
  else if x.op = 4 ∨ x.op = 5 then (if (mulR x.r s.b).2 = 0 then .ok { s with us := s.us ++ [⟨x.a, (mulR x.r s.b).1, x.op == 5, x.b == 1⟩] } else .error (mulR x.r s.b).2)
  else if x.op = 6 then (if (ceilR s.b).2 = 0 then (if 1099511627776 < (ceilR s.b).1 then .error 2 else .ok { s with ws := s.ws ++ [⟨x.a, IntKind.i64.wrap (x.b * (ceilR s.b).1)⟩] }) else .error (ceilR s.b).2)
  else if x.op = 7 then .ok { s with done := true }
  else .error 160
/-- what a run comes to, with so much fuel -/
def runM (xs : List Ins) (cs : List Int) (am : RV) : Nat → MS → Except Int (MS × Nat)
  | 0, s => if s.done then .ok (s, 0) else .error 170
  | f + 1, s => if s.done then .ok (s, f + 1) else match xs[s.at_.toNat]? with
      | none => .error (-1)
      | some x => match stepM cs am x { s with at_ := s.at_ + 1 } with
        | .error e => .error e
        | .ok s' => runM xs cs am f s'
def startM : MS := ⟨ofQ (newQ 0 1), [], [], 0, 0, false⟩
/-- the whole function -/
def runV (xs : List Ins) (cs : List Int) (am : RV) (fuel : Int) : Except Int (MS × Nat) :=
  if checkM xs ≠ 0 then .error (checkM xs)
  else if am.ok = false then .error 70
  else if am.neg = true ∨ cs = [] ∨ fuel < 0 then .error 1
  else runM xs cs am fuel.toNat startM
def RunPost (w : World) (R : Except Int (MS × Nat)) (e : Ending) (w' : World) : Prop :=
  match R with
  | .error k => e = .returned (runErr k) ∧ Below w.heap.size w w'
  | .ok (s, left) => Below w.heap.size w w' ∧ ∃ u k, e = .returned (.tuple #[u, k, .int .i64 s.lead, .int .i64 (left : Int), .int .i64 0]) ∧
      w'.ownsRow w.heap.size 58 6 u s.us.length (s.us.flatMap useC) ∧ w'.ownsRow w.heap.size 60 2 k s.ws.length (s.ws.flatMap workC)

/-- what holds of a state of a run -/
structure OkM (xs : List Ins) (s : MS) : Prop where
  low : 0 ≤ s.at_
  high : s.done = false → s.at_ < xs.length
  top : s.at_ ≤ xs.length
  fits : s.b.fits
  us : (s.us.length : Int) ≤ s.at_
  ws : (s.ws.length : Int) ≤ s.at_

theorem RV.fits_zero : RV.zero.fits := ⟨by decide, by decide⟩
theorem ofQ_fits {q : Rat} (h : okQ q) : (ofQ q).fits := ⟨nat_le h.1, nat_le h.2⟩
theorem okQ_of_le {n d : Nat} {s : Bool} (hd : 0 < d) (h1 : small n) (h2 : small d) : okQ (mkQ s n d) := by
  unfold okQ
  rw [mkQ_natAbs _ _ _ hd, mkQ_den _ _ _ hd]
  exact ⟨small_div h1 _, small_div h2 _⟩
theorem okQ_mul {a b : Rat} (h : mulFits a b) : okQ (a * b) := by
  rw [← mkQ_self a, ← mkQ_self b, mul_mkQ]
  exact okQ_of_le (Nat.mul_pos (den_pos a) (den_pos b)) h.1 h.2
theorem okQ_div {a b : Rat} (h0 : b ≠ 0) (h : divFits a b) : okQ (a / b) := by
  have hn : b.num.natAbs ≠ 0 := fun h2 => h0 (Rat.num_eq_zero.1 (by omega))
  rw [Rat.div_def, ← mkQ_inv b h0, ← mkQ_self a, mul_mkQ]
  exact okQ_of_le (Nat.mul_pos (den_pos a) (by omega)) h.1 h.2
theorem okQ_add {a b : Rat} (h : addFits a b) : okQ (a + b) := by
  rw [← mkQ_self a, ← mkQ_self b, add_mkQ _ _ _ _ (den_pos a) (den_pos b)]
  exact okQ_of_le (Nat.mul_pos (den_pos a) (den_pos b)) (small_saddN h.2.1 h.2.2.1 h.2.2.2) h.1
theorem mulR_fits (a b : RV) : (mulR a b).1.fits := by
  unfold mulR
  split
  · split
    · rename_i h; exact ofQ_fits (okQ_mul h)
    · exact RV.fits_zero
  · exact RV.fits_zero
theorem divR_fits (a b : RV) : (divR a b).1.fits := by
  unfold divR
  split
  · split
    · exact RV.fits_zero
    · split
      · rename_i h0 h; exact ofQ_fits (okQ_div h0 h)
      · exact RV.fits_zero
  · exact RV.fits_zero
theorem startM_b : okQ (newQ 0 1) := okQ_of_le (by decide) (by decide) (by decide)

theorem allV_get : ∀ (xs : List Ins), allV xs = true → ∀ i (h : i < xs.length), validI xs[i] ((xs.length - 1 - i : Nat) : Int) = true
  | [], _, i, h => by simp at h
  | x :: t, hv, i, h => by
    simp only [allV, Bool.and_eq_true] at hv
    match i, h with
    | 0, _ => simpa using hv.1
    | i + 1, h =>
      have := allV_get t hv.2 i (by simpa using h)
      simp only [List.length_cons, List.getElem_cons_succ]
      rwa [show t.length + 1 - 1 - (i + 1) = t.length - 1 - i by omega]
theorem valid_op {x : Ins} {k : Int} (h : validI x k = true) : 1 ≤ x.op ∧ x.op ≤ 8 := by
  unfold validI at h
  repeat' split at h
  all_goals (try omega)
  simp at h
  omega
theorem lastOk_op {xs : List Ins} (h : lastOk xs = true) {i : Nat} (hi : i < xs.length) (hn : xs[i].op ≠ 7) (hn' : xs[i].op ≠ 8) : i + 1 < xs.length := by
  by_cases he : i + 1 < xs.length
  · exact he
  · exfalso
    rw [lastOk_get xs (fun h0 => by simp [h0] at hi)] at h
    have : xs.length - 1 = i := by omega
    simp only [this, Bool.or_eq_true, decide_eq_true_eq] at h
    rcases h with h | h
    · exact hn h
    · exact hn' h

theorem step_ok {xs : List Ins} {cs : List Int} {am : RV} {s s' : MS} (hl : lastOk xs = true) (hv : allV xs = true) (ho : OkM xs s) (hd : s.done = false) (i : Nat) (hi : i < xs.length) (he : s.at_ = i) (h : stepM cs am xs[i] { s with at_ := s.at_ + 1 } = .ok s') :
    OkM xs s' ∧ s.at_ < s'.at_ := by
  have hV := allV_get xs hv i hi
  obtain ⟨o1, o2⟩ := valid_op hV
  obtain ⟨l1, l2, l3, l4, l5, l6⟩ := ho
  have hL : xs[i].op ≠ 7 → xs[i].op ≠ 8 → i + 1 < xs.length := lastOk_op hl hi
  generalize xs[i] = x at *
  unfold stepM at h
  unfold validI at hV
  split at h
  · rename_i h1
    rw [if_pos h1] at hV
    simp only [Bool.and_eq_true, decide_eq_true_eq] at hV
    cases h
    dsimp only
    split <;> refine ⟨⟨?_, fun _ => ?_, ?_, l4, ?_, ?_⟩, ?_⟩ <;> (try dsimp only) <;> omega
  rename_i h1
  rw [if_neg h1] at hV
  split at h
  · rename_i h2
    rw [if_pos h2] at hV
    simp only [Bool.and_eq_true, decide_eq_true_eq] at hV
    cases h
    refine ⟨⟨?_, fun _ => ?_, ?_, l4, ?_, ?_⟩, ?_⟩ <;> dsimp only <;> omega
  rename_i h2
  clear hV
  split at h
  · rename_i h3
    have := hL (by omega) (by omega)
    split at h
    · cases h
      refine ⟨⟨?_, fun _ => ?_, ?_, divR_fits _ _, ?_, ?_⟩, ?_⟩ <;> dsimp only <;> omega
    · cases h
  rename_i h3
  split at h
  · rename_i h4
    have := hL (by omega) (by omega)
    split at h
    · cases h
      refine ⟨⟨?_, fun _ => ?_, ?_, l4, ?_, ?_⟩, ?_⟩ <;> simp <;> omega
    · cases h
  rename_i h4
  split at h
  · rename_i h6
    have := hL (by omega) (by omega)
    split at h
    · split at h
      · cases h
      · cases h
        refine ⟨⟨?_, fun _ => ?_, ?_, l4, ?_, ?_⟩, ?_⟩ <;> simp <;> omega
    · cases h
  rename_i h6
  split at h
  · cases h
    refine ⟨⟨?_, fun hh => (by cases hh), ?_, l4, ?_, ?_⟩, ?_⟩ <;> dsimp only <;> omega
  · cases h
theorem start_ok {xs : List Ins} (h : xs ≠ []) : OkM xs startM := by
  have := List.length_pos_iff.2 h
  refine ⟨by decide, fun _ => ?_, ?_, ofQ_fits startM_b, by decide, by decide⟩
  · show (0 : Int) < _; omega
  · show (0 : Int) ≤ _; omega
theorem runM_step {xs : List Ins} {cs : List Int} {am : RV} {s : MS} (f : Nat) (hd : s.done = false) (i : Nat) (hi : i < xs.length) (he : s.at_ = i) :
    runM xs cs am (f + 1) s = match stepM cs am xs[i] { s with at_ := s.at_ + 1 } with
      | .error e => .error e
      | .ok s' => runM xs cs am f s' := by
  have h1 : s.at_.toNat = i := by omega
  simp only [runM, hd, Bool.false_eq_true, if_false, h1, List.getElem?_eq_getElem hi]
theorem runM_zero {xs : List Ins} {cs : List Int} {am : RV} {s : MS} (hd : s.done = false) : runM xs cs am 0 s = .error 170 := by simp [runM, hd]
theorem runM_done {xs : List Ins} {cs : List Int} {am : RV} {s : MS} (f : Nat) (hd : s.done = true) : runM xs cs am f s = .ok (s, f) := by cases f <;> simp [runM, hd]
end Go.Proofs.YteggbpaljmopoaaGreat
