/- The reference of layer 17: its sizes and its equalities. Conditions: those that each theorem states. -/
import Derived.Test.YteggbpaljmopoaaGreatMachE
import Derived.Test.YteggbpaljmopoaaGreatReads
import Derived.Test.YteggbpaljmopoaaGreatMachA
import Derived.Laws.StructEq
set_option linter.unusedVariables false
set_option linter.unusedSimpArgs false
/- machine: the arguments of its statements, opened. -/
namespace Go.Proofs.YteggbpaljmopoaaGreat
open Go.RowKit Go.ChangeShapes Go.WideShapes Go.Deep BF

def rdRV : Rd RV := (Rd.bool.pair (Rd.str.pair (Rd.str.pair Rd.unit))).map fun x => ⟨x.1, x.2.1, x.2.2.1⟩
def rdIns : Rd Ins := ((Rd.int .i64).pair ((Rd.int .i64).pair ((Rd.int .i64).pair (rdRV.pair Rd.unit)))).map fun x => ⟨x.1, x.2.1, x.2.2.1, x.2.2.2.1⟩
theorem rdRV_vals {w : World} {r : RV} {cs : List Value} (h : rdRV.vals w r cs) : cs = [.bool r.neg, .string r.n, .string r.d] ∧ r.fits := by
  obtain ⟨⟨b, n, d, u⟩, rfl, c1, c2, rfl, h1, c3, c4, rfl, h2, c5, c6, rfl, h3, h4⟩ := h
  obtain rfl : c1 = [.bool b] := h1
  obtain ⟨rfl, h2⟩ := h2
  obtain ⟨rfl, h3⟩ := h3
  obtain rfl : c6 = [] := h4
  exact ⟨rfl, h2, h3⟩
theorem rdRV_long : rdRV.Long := Rd.map_long (Rd.pair_long Rd.bool_long (Rd.pair_long Rd.str_long (Rd.pair_long Rd.str_long Rd.unit_long))) _
theorem rdIns_long : rdIns.Long := Rd.map_long (Rd.pair_long Rd.int_long (Rd.pair_long Rd.int_long (Rd.pair_long Rd.int_long (Rd.pair_long rdRV_long Rd.unit_long)))) _
theorem rdIns_vals {w : World} {x : Ins} {cs : List Value} (h : rdIns.vals w x cs) : cs = [.int .i64 x.op, .int .i64 x.a, .int .i64 x.b, .bool x.r.neg, .string x.r.n, .string x.r.d] ∧ x.r.fits := by
  obtain ⟨⟨op, a, b, r, u⟩, rfl, c1, c2, rfl, h1, c3, c4, rfl, h2, c5, c6, rfl, h3, c7, c8, rfl, h4, h5⟩ := h
  obtain ⟨rfl, _⟩ := h1
  obtain ⟨rfl, _⟩ := h2
  obtain ⟨rfl, _⟩ := h3
  obtain ⟨rfl, h6⟩ := rdRV_vals h4
  obtain rfl : c8 = [] := h5
  exact ⟨rfl, h6⟩
theorem opens_RV : Opens Tryz.prog rdRV 25 := opens_struct Tryz.underlying25 (by kernel_rfl) (fopens_cons rfl (by kernel_rfl) (opens_bool Tryz.underlying4) (fopens_cons rfl (by kernel_rfl) (opens_str Tryz.underlying9) (fopens_cons rfl (by kernel_rfl) (opens_str Tryz.underlying9) fopens_nil))) _
theorem opens_Ins : Opens Tryz.prog rdIns 40 := opens_struct Tryz.underlying40 (by kernel_rfl) (fopens_cons rfl (by kernel_rfl) (opens_int Tryz.underlying3) (fopens_cons rfl (by kernel_rfl) (opens_int Tryz.underlying3) (fopens_cons rfl (by kernel_rfl) (opens_int Tryz.underlying3) (fopens_cons rfl (by kernel_rfl) opens_RV fopens_nil)))) _
theorem opens_code : Opens Tryz.prog rdIns.slice 22 := opens_slice Tryz.underlying22 (by kernel_rfl) (by decide) rdIns_long opens_Ins
theorem opens_ints : Opens Tryz.prog (Rd.int .i64).slice 23 := opens_slice Tryz.underlying23 (by kernel_rfl) (by decide) Rd.int_long (opens_int Tryz.underlying3)

theorem codeIs_of {w : World} {v : Value} {xs : List Ins} (h : SliceIs rdIns w v xs) : CodeIs w v xs ∧ (∀ x ∈ xs, x.r.fits) ∧ xs.length ≤ maxLen := by
  rcases h with ⟨p, cap, rfl, rfl⟩ | ⟨g, o, cap, rfl, h1, h2, h3, h4, h5⟩
  · exact ⟨.inl ⟨p, cap, rfl, rfl⟩, fun x hx => by simp at hx, by simp⟩
  · refine ⟨.inr ⟨g, o, cap, rfl, h1, h4, fun j hj => ?_⟩, fun x hx => ?_, Nat.le_trans h2 h3⟩
    · obtain ⟨cs, k1, k2⟩ := h5 j hj
      obtain ⟨rfl, _⟩ := rdIns_vals k1
      exact ⟨k2 0 (by decide), k2 1 (by decide), k2 2 (by decide), k2 3 (by decide), k2 4 (by decide), k2 5 (by decide)⟩
    · obtain ⟨i, hi, rfl⟩ := List.getElem_of_mem hx
      obtain ⟨cs, k1, _⟩ := h5 i hi
      exact (rdIns_vals k1).2
theorem intsIs_of {w : World} {v : Value} {cs : List Int} (h : SliceIs (Rd.int .i64) w v cs) : IntsIs w v cs ∧ (∀ n ∈ cs, -9223372036854775808 ≤ n ∧ n ≤ 9223372036854775807) ∧ cs.length ≤ maxLen := by
  rcases h with ⟨p, cap, rfl, rfl⟩ | ⟨g, o, cap, rfl, h1, h2, h3, h4, h5⟩
  · exact ⟨.inl ⟨p, cap, rfl, rfl⟩, fun x hx => by simp at hx, by simp⟩
  · refine ⟨.inr ⟨g, o, cap, rfl, h1, h4, fun j hj => ?_⟩, fun x hx => ?_, Nat.le_trans h2 h3⟩
    · obtain ⟨c, ⟨rfl, _⟩, k2⟩ := h5 j hj
      have := k2 0 (by decide)
      have e : o + j * (Rd.int .i64).size + 0 = o + j := by show o + j * 1 + 0 = _; omega
      rwa [e] at this
    · obtain ⟨i, hi, rfl⟩ := List.getElem_of_mem hx
      obtain ⟨c, ⟨_, k1⟩, _⟩ := h5 i hi
      have e1 : IntKind.i64.min = -9223372036854775808 := by decide
      have e2 : IntKind.i64.max = 9223372036854775807 := by decide
      simp only [Lit.wf, Bool.and_eq_true, decide_eq_true_eq, e1, e2] at k1
      exact k1
set_option maxRecDepth 100000 in
theorem rv_of {w : World} {v : Value} {r : RV} (hv : Value.okWide Tryz.prog w .any 0 25 v) (h : rdRV.vals w r v.cells.toList) : v = r.v ∧ r.fits := by
  obtain ⟨h1, h2⟩ := rdRV_vals h
  rw [arg_struct Tryz.underlying25 hv, h1]
  exact ⟨rfl, h2⟩
end Go.Proofs.YteggbpaljmopoaaGreat
/- Sizes and equality, as the statements ask them: FewRatio, Few, SameUses, SameWork. -/
namespace Go.Proofs.YteggbpaljmopoaaGreat
open Go.RowKit BF

def fewB (r : RV) : Bool := decide (r.n.size ≤ 40) && decide (r.d.size ≤ 40)
def fewC (xs : List Ins) : Bool := xs.all (fun x => fewB x.r) && decide (xs.length ≤ 60)

set_option maxRecDepth 100000 in
theorem FewRatio_any (r : RV) (hr : r.fits) (w : World) : Calls Tryz.prog 6 #[r.v] w fun e w' => e = .returned (.bool (fewB r)) ∧ Below w.heap.size w w' := by
  obtain ⟨s, n, d⟩ := r
  unfold RV.fits at hr
  unfold RV.v rV fewB
  dsimp only at *
  obtain ⟨h1, h2⟩ := hr
  unfold maxLen at h1 h2
  have HA : Hid (Blk (w.alloc (.cells #[.bool s, .string n, .string d] 25)) w.heap.size 25 #[.bool s, .string n, .string d]) := Blk.new w _ _
  have HW : Hid (Below w.heap.size w (w.alloc (.cells #[.bool s, .string n, .string d] 25))) := (Below.refl _ w).alloc (Nat.le_refl _) _
  by_cases g1 : n.size ≤ 40
  · by_cases g2 : d.size ≤ 40
    · go_enter Tryz.func6, Tryz.ntmps6
      go_wp2
      go_ret
      exact ⟨by simp [g1, g2]; omega, HW.out⟩
    · go_enter Tryz.func6, Tryz.ntmps6
      go_wp2
      go_ret
      exact ⟨by simp [g1, g2]; omega, HW.out⟩
  · go_enter Tryz.func6, Tryz.ntmps6
    go_wp2
    go_ret
    exact ⟨by simp [g1], HW.out⟩

theorem fewC_step (xs : List Ins) (k : Nat) (hk : k < xs.length) (h : (xs.take k).all (fun x => fewB x.r) = true) (b : Bool) (hb : fewB xs[k].r = b) :
    (b = true → (xs.take (k + 1)).all (fun x => fewB x.r) = true) ∧ (b = false → fewC xs = false) := by
  constructor
  · rintro rfl
    rw [List.take_succ_eq_append_getElem hk, List.all_append, h]
    simp [hb]
  · rintro rfl
    unfold fewC
    rw [Bool.and_eq_false_iff]
    left
    rw [List.all_eq_false]
    exact ⟨xs[k], List.getElem_mem hk, by simp [hb]⟩

set_option maxRecDepth 100000 in
set_option maxHeartbeats 1000000 in
theorem Few_loop (g o cap n : Nat) (hn' : n ≤ maxLen) (xs : List Ins) (HL : Hid (xs.length = n)) (w : World) (HC : Hid (CodeAt w g o xs)) (HF : Hid (∀ x ∈ xs, x.r.fits)) (M : Bool) (HM : Hid (fewC xs = M)) :
    Calls Tryz.prog 5 #[.slice (some ⟨g, o, none⟩) n cap] w fun e w' => e = .returned (.bool M) ∧ Below w.heap.size w w' := by
  unfold maxLen at hn'
  go_enter Tryz.func5, Tryz.ntmps5
  go_wp2
  go_loopw [3] (fun i wr => ∃ k : Nat, k ≤ n ∧ i = .int .i64 (k : Int) ∧ Hid (Below w.heap.size w wr) ∧ Hid ((xs.take k).all (fun x => fewB x.r) = true)) (fun i _ => n - (intOf i).toNat)
  case atStart => exact ⟨0, Nat.zero_le _, rfl, Below.refl _ _, rfl⟩
  case round =>
    obtain ⟨k, hk, rfl, HW, HV⟩ := hrel
    by_cases hkn : k < n
    · have hkl : k < xs.length := by rw [HL.out]; exact hkn
      have hIns := (HC.out.below HW.out HC.out.1).2 k hkl
      have HNX := fun b hb => Lib.hid (fewC_step xs k hkl HV.out b hb)
      have HVAL := Lib.hid (fun w => FewRatio_any xs[k].r (HF.out _ (List.getElem_mem hkl)) w)
      generalize hB : fewB xs[k].r = b at *
      have HNX := HNX b rfl
      generalize xs[k] = x at *
      clear hB hkl
      obtain ⟨op, a, b', s, nn, d⟩ := x
      unfold RV.v rV at HVAL
      obtain ⟨c0, c1, c2, c3, c4, c5⟩ := hIns
      dsimp only at *
      cases b with
      | false =>
        go_wp2_with (fail)
        refine (HVAL.out _).mono ?_
        rintro e w1 ⟨rfl, hb⟩
        have HW1 := Lib.hid (HW.out.trans (hb.mono HW.out.size))
        clear hb
        go_wp2
        go_ret
        exact ⟨by rw [← HM.out, HNX.out.2 (by first | rfl | trivial)]; rfl, HW1.out⟩
      | true =>
        go_wp2_with (fail)
        refine (HVAL.out _).mono ?_
        rintro e w1 ⟨rfl, hb⟩
        have HW1 := Lib.hid (HW.out.trans (hb.mono HW.out.size))
        clear hb
        go_wp2
        go_roundw
        case rel => exact ⟨k + 1, by omega, by go_num, HW1.out, HNX.out.1 (by first | rfl | trivial)⟩
        case measure => simp [intOf]; omega
    · obtain rfl : k = n := by omega
      go_wp2
      go_ret
      exact ⟨by rw [← HM.out]; unfold fewC; rw [← HL.out, List.take_length] at HV; rw [HV.out, HL.out]; simp; omega, HW.out⟩
end Go.Proofs.YteggbpaljmopoaaGreat
/- SameUses, SameWork. -/
namespace Go.Proofs.YteggbpaljmopoaaGreat
open Go.RowKit BF

def UseAt (w : World) (g o : Nat) (u : UseV) : Prop :=
  w.cell? ⟨g, o, none⟩ = some (.int .i64 u.item) ∧ w.cell? ⟨g, o + 1, none⟩ = some (.bool u.amount.neg) ∧ w.cell? ⟨g, o + 2, none⟩ = some (.string u.amount.n) ∧
  w.cell? ⟨g, o + 3, none⟩ = some (.string u.amount.d) ∧ w.cell? ⟨g, o + 4, none⟩ = some (.bool u.out) ∧ w.cell? ⟨g, o + 5, none⟩ = some (.bool u.back)
def WorkAt (w : World) (g o : Nat) (u : WorkV) : Prop :=
  w.cell? ⟨g, o, none⟩ = some (.int .i64 u.machine) ∧ w.cell? ⟨g, o + 1, none⟩ = some (.int .i64 u.slots)
def RowIs {α : Type} (At : World → Nat → Nat → α → Prop) (z : Nat) (w : World) (v : Value) (us : List α) : Prop :=
  (∃ p cap, v = .slice p 0 cap ∧ us = []) ∨ ∃ g o cap, v = .slice (some ⟨g, o, none⟩) us.length cap ∧ us ≠ [] ∧ g < w.heap.size ∧ us.length ≤ maxLen ∧ ∀ j, (h : j < us.length) → At w g (o + j * z) us[j]

theorem bytes_inj (a b : ByteArray) : a.toList = b.toList ↔ a = b := by
  constructor
  · intro h
    rw [ByteArray.toList_eq, ByteArray.toList_eq] at h
    obtain ⟨⟨x⟩⟩ := a
    obtain ⟨⟨y⟩⟩ := b
    simp at h
    rw [h]
  · rintro rfl; rfl
theorem take_same {α : Type} {us vs : List α} {k : Nat} (hk : k < us.length) (hk' : k < vs.length) (h : us.take k = vs.take k) (he : us[k] = vs[k]) : us.take (k + 1) = vs.take (k + 1) := by
  rw [List.take_succ_eq_append_getElem hk, List.take_succ_eq_append_getElem hk', h, he]
theorem take_other {α : Type} {us vs : List α} {k : Nat} (hk : k < us.length) (hk' : k < vs.length) (he : ¬ us[k] = vs[k]) : ¬ us = vs := by
  rintro rfl; exact he rfl
set_option maxRecDepth 100000 in
set_option maxHeartbeats 1000000 in
theorem SameUses_loop (g o cap g' o' cap' n : Nat) (hn : n ≤ maxLen) (us vs : List UseV) (HL : Hid (us.length = n)) (HL' : Hid (vs.length = n)) (w : World) (HU : Hid (∀ j, (h : j < us.length) → UseAt w g (o + j * 6) us[j])) (HV : Hid (∀ j, (h : j < vs.length) → UseAt w g' (o' + j * 6) vs[j]))
    (M : Bool) (HM : Hid (decide (us = vs) = M)) :
    Calls Tryz.prog 11 #[.slice (some ⟨g, o, none⟩) n cap, .slice (some ⟨g', o', none⟩) n cap'] w fun e w' => e = .returned (.bool M) ∧ ∃ k, w' = w.drewN k := by
  unfold maxLen at hn
  have hnn : ((n : Int) != (n : Int)) = false := by simp
  go_enter Tryz.func11, Tryz.ntmps11
  go_wp2
  go_loopw [5] (fun i wr => ∃ k : Nat, k ≤ n ∧ i = .int .i64 (k : Int) ∧ Hid (us.take k = vs.take k) ∧ ∃ m, wr = w.drewN m) (fun i _ => n - (intOf i).toNat)
  case atStart => exact ⟨0, Nat.zero_le _, rfl, rfl, 0, rfl⟩
  case round =>
    obtain ⟨k, hk, rfl, HT, m, rfl⟩ := hrel
    by_cases hkn : k < n
    · have hkl : k < us.length := by rw [HL.out]; exact hkn
      have hkl' : k < vs.length := by rw [HL'.out]; exact hkn
      have hU := HU.out k hkl
      have hV := HV.out k hkl'
      have HS : us[k] = vs[k] → Hid (us.take (k + 1) = vs.take (k + 1)) := fun h => take_same hkl hkl' HT.out h
      have HO : ¬ us[k] = vs[k] → Hid (false = M) := fun h => by rw [← HM.out, decide_eq_false (take_other hkl hkl' h)]; rfl
      generalize us[k] = x at *
      generalize vs[k] = y at *
      obtain ⟨i1, ⟨s1, n1, d1⟩, p1, q1⟩ := x
      obtain ⟨i2, ⟨s2, n2, d2⟩, p2, q2⟩ := y
      obtain ⟨c0, c1, c2, c3, c4, c5⟩ := hU
      obtain ⟨e0, e1, e2, e3, e4, e5⟩ := hV
      dsimp only at *
      clear hkl hkl'
      have HS := Lib.hid HS
      have HO := Lib.hid HO
      by_cases g1 : i1 = i2
      case neg => 
        have HF := HO.out (by simp [g1])
        go_wp2
        go_quiet (fail)
        go_wp2
        go_ret
        exact ⟨by rw [← HF.out]; rfl, _, by first | rfl | exact World.drewN_drewN _ _ _⟩
      by_cases g2 : s1 = s2
      case neg =>
        have HF := HO.out (by simp [g2])
        go_wp2
        go_quiet (fail)
        go_wp2
        go_ret
        exact ⟨by rw [← HF.out]; rfl, _, by first | rfl | exact World.drewN_drewN _ _ _⟩
      by_cases g3 : n1 = n2
      case neg =>
        have g3' : ¬ n1.toList = n2.toList := fun h => g3 ((bytes_inj _ _).1 h)
        have HF := HO.out (by simp [g3])
        subst g1; subst g2
        go_wp2
        go_quiet (fail)
        go_wp2
        go_ret
        exact ⟨by rw [← HF.out]; rfl, _, by first | rfl | exact World.drewN_drewN _ _ _⟩
      by_cases g4 : d1 = d2
      case neg =>
        have g4' : ¬ d1.toList = d2.toList := fun h => g4 ((bytes_inj _ _).1 h)
        have HF := HO.out (by simp [g4])
        subst g1; subst g2; subst g3
        go_wp2
        go_quiet (fail)
        go_wp2
        go_ret
        exact ⟨by rw [← HF.out]; rfl, _, by first | rfl | exact World.drewN_drewN _ _ _⟩
      by_cases g5 : p1 = p2
      case neg =>
        have HF := HO.out (by simp [g5])
        subst g1; subst g2; subst g3; subst g4
        go_wp2
        go_quiet (fail)
        go_wp2
        go_ret
        exact ⟨by rw [← HF.out]; rfl, _, by first | rfl | exact World.drewN_drewN _ _ _⟩
      by_cases g6 : q1 = q2
      case neg =>
        have HF := HO.out (by simp [g6])
        subst g1; subst g2; subst g3; subst g4; subst g5
        go_wp2
        go_quiet (fail)
        go_wp2
        go_ret
        exact ⟨by rw [← HF.out]; rfl, _, by first | rfl | exact World.drewN_drewN _ _ _⟩
      subst g1; subst g2; subst g3; subst g4; subst g5; subst g6
      have HT1 := HS.out rfl
      go_wp2
      go_quiet (fail)
      go_wp2
      go_roundw
      case rel => exact ⟨k + 1, by omega, by go_num, HT1, _, by first | rfl | exact World.drewN_drewN _ _ _⟩
      case measure => simp [intOf]; omega
    · obtain rfl : k = n := by omega
      have HF : Hid (true = M) := by rw [← HM.out, decide_eq_true]; rfl; have h := HT.out; rw [List.take_of_length_le (by rw [HL.out]; exact Nat.le_refl _), List.take_of_length_le (by rw [HL'.out]; exact Nat.le_refl _)] at h; exact h
      go_wp2
      go_ret
      exact ⟨by rw [← HF.out]; rfl, _, rfl⟩

theorem RowIs.len {α : Type} {At : World → Nat → Nat → α → Prop} {z : Nat} {w : World} {v : Value} {us : List α} (h : RowIs At z w v us) : ∃ p cap, v = .slice p us.length cap ∧ us.length ≤ maxLen := by
  rcases h with ⟨p, cap, rfl, rfl⟩ | ⟨g, o, cap, rfl, _, _, h, _⟩
  · exact ⟨_, _, rfl, by simp⟩
  · exact ⟨_, _, rfl, h⟩
theorem SameUses_any (u v : Value) (us vs : List UseV) (w : World) (hu : RowIs UseAt 6 w u us) (hv : RowIs UseAt 6 w v vs) :
    Calls Tryz.prog 11 #[u, v] w fun e w' => e = .returned (.bool (decide (us = vs))) ∧ Below w.heap.size w w' := by
  by_cases hl : us.length = vs.length
  · rcases hu with ⟨p, cap, rfl, rfl⟩ | ⟨g, o, cap, rfl, h1, h2, h3, h4⟩
    · obtain rfl : vs = [] := List.length_eq_zero_iff.1 hl.symm
      obtain ⟨q, cap', rfl, _⟩ := hv.len
      go_enter Tryz.func11, Tryz.ntmps11
      go_wp2
      go_loop [5] (fun i => i = .int .i64 0) (fun _ => 0)
      case atStart => rfl
      case round =>
        subst hrel
        go_wp2
        go_ret
        exact ⟨rfl, Below.refl _ _⟩
    · rcases hv with ⟨p, cap', rfl, rfl⟩ | ⟨g', o', cap', rfl, k1, k2, k3, k4⟩
      · exact absurd (List.length_eq_zero_iff.1 hl) h1
      · have := SameUses_loop g o cap g' o' cap' us.length h3 us vs rfl hl.symm w h4 k4 _ rfl
        rw [show vs.length = us.length from hl.symm]
        refine this.mono ?_
        rintro e w' ⟨he, k, rfl⟩
        exact ⟨he, below_drewN (Below.refl _ _) _⟩
  · obtain ⟨p, cap, rfl, h1⟩ := hu.len
    obtain ⟨p', cap', rfl, h2⟩ := hv.len
    have hM : decide (us = vs) = false := decide_eq_false fun h => hl (by rw [h])
    generalize decide (us = vs) = M at *
    subst hM
    generalize us.length = n at *
    generalize vs.length = m at *
    have hb : ((n : Int) != (m : Int)) = true := by simp; omega
    clear hl hu hv
    unfold maxLen at h1 h2
    go_enter Tryz.func11, Tryz.ntmps11
    go_wp2
    go_ret
    exact ⟨rfl, Below.refl _ _⟩

set_option maxRecDepth 100000 in
set_option maxHeartbeats 1000000 in
theorem SameWork_loop (g o cap g' o' cap' n : Nat) (hn : n ≤ maxLen) (us vs : List WorkV) (HL : Hid (us.length = n)) (HL' : Hid (vs.length = n)) (w : World) (HU : Hid (∀ j, (h : j < us.length) → WorkAt w g (o + j * 2) us[j])) (HV : Hid (∀ j, (h : j < vs.length) → WorkAt w g' (o' + j * 2) vs[j]))
    (M : Bool) (HM : Hid (decide (us = vs) = M)) :
    Calls Tryz.prog 12 #[.slice (some ⟨g, o, none⟩) n cap, .slice (some ⟨g', o', none⟩) n cap'] w fun e w' => e = .returned (.bool M) ∧ ∃ k, w' = w.drewN k := by
  unfold maxLen at hn
  have hnn : ((n : Int) != (n : Int)) = false := by simp
  go_enter Tryz.func12, Tryz.ntmps12
  go_wp2
  go_loopw [5] (fun i wr => ∃ k : Nat, k ≤ n ∧ i = .int .i64 (k : Int) ∧ Hid (us.take k = vs.take k) ∧ ∃ m, wr = w.drewN m) (fun i _ => n - (intOf i).toNat)
  case atStart => exact ⟨0, Nat.zero_le _, rfl, rfl, 0, rfl⟩
  case round =>
    obtain ⟨k, hk, rfl, HT, m, rfl⟩ := hrel
    by_cases hkn : k < n
    · have hkl : k < us.length := by rw [HL.out]; exact hkn
      have hkl' : k < vs.length := by rw [HL'.out]; exact hkn
      have hU := HU.out k hkl
      have hV := HV.out k hkl'
      have HS : us[k] = vs[k] → Hid (us.take (k + 1) = vs.take (k + 1)) := fun h => take_same hkl hkl' HT.out h
      have HO : ¬ us[k] = vs[k] → Hid (false = M) := fun h => by rw [← HM.out, decide_eq_false (take_other hkl hkl' h)]; rfl
      generalize us[k] = x at *
      generalize vs[k] = y at *
      obtain ⟨i1, s1⟩ := x
      obtain ⟨i2, s2⟩ := y
      obtain ⟨c0, c1⟩ := hU
      obtain ⟨e0, e1⟩ := hV
      dsimp only at *
      clear hkl hkl'
      have HS := Lib.hid HS
      have HO := Lib.hid HO
      by_cases g1 : i1 = i2
      case neg => 
        have HF := HO.out (by simp [g1])
        go_wp2
        go_quiet (fail)
        go_wp2
        go_ret
        exact ⟨by rw [← HF.out]; rfl, _, by first | rfl | exact World.drewN_drewN _ _ _⟩
      by_cases g2 : s1 = s2
      case neg =>
        have HF := HO.out (by simp [g2])
        go_wp2
        go_quiet (fail)
        go_wp2
        go_ret
        exact ⟨by rw [← HF.out]; rfl, _, by first | rfl | exact World.drewN_drewN _ _ _⟩
      subst g1; subst g2
      have HT1 := HS.out rfl
      go_wp2
      go_quiet (fail)
      go_wp2
      go_roundw
      case rel => exact ⟨k + 1, by omega, by go_num, HT1, _, by first | rfl | exact World.drewN_drewN _ _ _⟩
      case measure => simp [intOf]; omega
    · obtain rfl : k = n := by omega
      have HF : Hid (true = M) := by rw [← HM.out, decide_eq_true]; rfl; have h := HT.out; rw [List.take_of_length_le (by rw [HL.out]; exact Nat.le_refl _), List.take_of_length_le (by rw [HL'.out]; exact Nat.le_refl _)] at h; exact h
      go_wp2
      go_ret
      exact ⟨by rw [← HF.out]; rfl, _, rfl⟩
theorem SameWork_any (u v : Value) (us vs : List WorkV) (w : World) (hu : RowIs WorkAt 2 w u us) (hv : RowIs WorkAt 2 w v vs) :
    Calls Tryz.prog 12 #[u, v] w fun e w' => e = .returned (.bool (decide (us = vs))) ∧ Below w.heap.size w w' := by
  by_cases hl : us.length = vs.length
  · rcases hu with ⟨p, cap, rfl, rfl⟩ | ⟨g, o, cap, rfl, h1, h2, h3, h4⟩
    · obtain rfl : vs = [] := List.length_eq_zero_iff.1 hl.symm
      obtain ⟨q, cap', rfl, _⟩ := hv.len
      go_enter Tryz.func12, Tryz.ntmps12
      go_wp2
      go_loop [5] (fun i => i = .int .i64 0) (fun _ => 0)
      case atStart => rfl
      case round =>
        subst hrel
        go_wp2
        go_ret
        exact ⟨rfl, Below.refl _ _⟩
    · rcases hv with ⟨p, cap', rfl, rfl⟩ | ⟨g', o', cap', rfl, k1, k2, k3, k4⟩
      · exact absurd (List.length_eq_zero_iff.1 hl) h1
      · have := SameWork_loop g o cap g' o' cap' us.length h3 us vs rfl hl.symm w h4 k4 _ rfl
        rw [show vs.length = us.length from hl.symm]
        refine this.mono ?_
        rintro e w' ⟨he, k, rfl⟩
        exact ⟨he, below_drewN (Below.refl _ _) _⟩
  · obtain ⟨p, cap, rfl, h1⟩ := hu.len
    obtain ⟨p', cap', rfl, h2⟩ := hv.len
    have hM : decide (us = vs) = false := decide_eq_false fun h => hl (by rw [h])
    generalize decide (us = vs) = M at *
    subst hM
    generalize us.length = n at *
    generalize vs.length = m at *
    have hb : ((n : Int) != (m : Int)) = true := by simp; omega
    clear hl hu hv
    unfold maxLen at h1 h2
    go_enter Tryz.func12, Tryz.ntmps12
    go_wp2
    go_ret
    exact ⟨rfl, Below.refl _ _⟩
end Go.Proofs.YteggbpaljmopoaaGreat
/- Results of Run as rows that are read; Few of a program. -/
namespace Go.Proofs.YteggbpaljmopoaaGreat
open Go.RowKit BF

theorem Few_any (v : Value) (xs : List Ins) (w : World) (h : CodeIs w v xs) (hf : ∀ x ∈ xs, x.r.fits) (hn : xs.length ≤ maxLen) :
    Calls Tryz.prog 5 #[v] w fun e w' => e = .returned (.bool (fewC xs)) ∧ Below w.heap.size w w' := by
  rcases h with ⟨p, cap, rfl, rfl⟩ | ⟨g, o, cap, rfl, h2, h3⟩
  · go_enter Tryz.func5, Tryz.ntmps5
    go_wp2
    refine wp_loop_rounds 1 ?_
    rw [rounds_succ]
    go_wp2
    go_ret
    exact ⟨rfl, Below.refl _ _⟩
  · exact Few_loop g o cap xs.length hn xs rfl w h3 hf _ rfl

theorem flat_get {α : Type} (f : α → List Value) (z : Nat) (hf : ∀ a, (f a).length = z) : ∀ (us : List α) (i j : Nat), j < z → (us.flatMap f)[i * z + j]? = (us[i]?).bind fun a => (f a)[j]?
  | [], i, j, _ => by simp
  | u :: us, 0, j, hj => by
    rw [List.flatMap_cons, List.getElem?_append_left (by rw [hf]; omega)]
    simp
  | u :: us, i + 1, j, hj => by
    rw [List.flatMap_cons, List.getElem?_append_right (by rw [hf, Nat.succ_mul]; omega), hf, show (i + 1) * z + j - z = i * z + j by rw [Nat.succ_mul]; omega, flat_get f z hf us i j hj]
    simp

theorem rowIs_of {α : Type} {At : World → Nat → Nat → α → Prop} {f : α → List Value} {z : Nat} (hf : ∀ a, (f a).length = z) (hAt : ∀ w g o a, (∀ j, j < z → w.cell? ⟨g, o + j, none⟩ = (f a)[j]?) → At w g o a) {w : World} {B : Nat} {T : TypeId} {u : Value} {us : List α}
    (h : w.ownsRow B T z u us.length (us.flatMap f)) : RowIs At z w u us := by
  have h0 := h
  obtain ⟨hl, h | ⟨g, cap, cur, rfl, h1, h2, h3, h4, h5, h6⟩⟩ := h
  · exact .inl ⟨none, 0, by rw [h.1], List.length_eq_zero_iff.1 h.2⟩
  · by_cases hus : us = []
    · subst hus
      exact .inl ⟨_, _, rfl, rfl⟩
    · refine .inr ⟨g, 0, cap, rfl, hus, (Array.getElem?_eq_some_iff.1 h2).1, Nat.le_trans h3 h4, fun i hi => hAt _ _ _ _ fun j hj => ?_⟩
      rw [Nat.zero_add]
      have hlt : i * z + j < us.length * z := by
        have : (i + 1) * z ≤ us.length * z := Nat.mul_le_mul_right z hi
        rw [Nat.succ_mul] at this
        omega
      have := h0.cellAt (i * z + j) (by omega)
      rw [this, flat_get f z hf us i j hj, List.getElem?_eq_getElem hi]
      rfl
theorem uses_row {w : World} {B : Nat} {u : Value} {us : List UseV} (h : w.ownsRow B 58 6 u us.length (us.flatMap useC)) : RowIs UseAt 6 w u us :=
  rowIs_of (f := useC) (fun _ => rfl) (fun w g o a h => ⟨h 0 (by decide), h 1 (by decide), h 2 (by decide), h 3 (by decide), h 4 (by decide), h 5 (by decide)⟩) h
theorem work_row {w : World} {B : Nat} {u : Value} {us : List WorkV} (h : w.ownsRow B 60 2 u us.length (us.flatMap workC)) : RowIs WorkAt 2 w u us :=
  rowIs_of (f := workC) (fun _ => rfl) (fun w g o a h => ⟨h 0 (by decide), h 1 (by decide)⟩) h
theorem RowIs.under {α : Type} {At : World → Nat → Nat → α → Prop} {z : Nat} (hAt : ∀ w w' B g o a, At w g o a → Below B w w' → g < B → At w' g o a) {w w' : World} {v : Value} {us : List α} (h : RowIs At z w v us) (hb : Below w.heap.size w w') : RowIs At z w' v us := by
  rcases h with h | ⟨g, o, cap, h1, h2, h3, h4, h5⟩
  · exact .inl h
  · exact .inr ⟨g, o, cap, h1, h2, Nat.lt_of_lt_of_le h3 hb.size, h4, fun j hj => hAt _ _ _ _ _ _ (h5 j hj) hb h3⟩
theorem UseAt.under {w w' : World} {B g o : Nat} {a : UseV} (h : UseAt w g o a) (hb : Below B w w') (hg : g < B) : UseAt w' g o a := by
  unfold UseAt at *
  simp only [hb.cell (p := ⟨g, _, none⟩) hg]
  exact h
theorem WorkAt.under {w w' : World} {B g o : Nat} {a : WorkV} (h : WorkAt w g o a) (hb : Below B w w') (hg : g < B) : WorkAt w' g o a := by
  unfold WorkAt at *
  simp only [hb.cell (p := ⟨g, _, none⟩) hg]
  exact h
theorem uses_under {w w' : World} {v : Value} {us : List UseV} (h : RowIs UseAt 6 w v us) (hb : Below w.heap.size w w') : RowIs UseAt 6 w' v us := h.under (fun _ _ _ _ _ _ h1 h2 h3 => h1.under h2 h3) hb
theorem work_under {w w' : World} {v : Value} {us : List WorkV} (h : RowIs WorkAt 2 w v us) (hb : Below w.heap.size w w') : RowIs WorkAt 2 w' v us := h.under (fun _ _ _ _ _ _ h1 h2 h3 => h1.under h2 h3) hb
end Go.Proofs.YteggbpaljmopoaaGreat
