/- The examples of layer 17 hold. Conditions: those that each theorem states. -/
import Derived.Test.YteggbpaljmopoaaGreatMachE
import Derived.Test.YteggbpaljmopoaaGreatRefsA
import Derived.Test.YteggbpaljmopoaaGreatNoneE
import Derived.Test.YteggbpaljmopoaaGreatPre
set_option linter.unusedVariables false
set_option linter.unusedSimpArgs false
/- backflushlaw17: sane's runs, in plain terms. -/
namespace Go.Proofs.YteggbpaljmopoaaGreat
open Go.RowKit BF

def rat1 (n d : Int) : RV := ofQ (newQ n d)
def sampleX : List Ins := [⟨1, 0, 2, RV.zero⟩, ⟨2, 6, 0, RV.zero⟩, ⟨1, -1, 3, RV.zero⟩, ⟨2, 4, 0, RV.zero⟩, ⟨3, 5, 2, rat1 4 1⟩, ⟨4, 1, 1, rat1 5 2⟩, ⟨6, 1, 3, RV.zero⟩, ⟨7, 0, 0, RV.zero⟩, ⟨3, 0, 0, rat1 1 1⟩, ⟨5, 3, 0, rat1 7 1⟩, ⟨7, 0, 0, RV.zero⟩]
theorem q_4 : rat1 4 1 = ⟨false, ⟨#[4]⟩, ⟨#[1]⟩⟩ := by kernel_rfl
theorem q_5 : rat1 5 2 = ⟨false, ⟨#[5]⟩, ⟨#[2]⟩⟩ := by kernel_rfl
theorem q_1 : rat1 1 1 = ⟨false, ⟨#[1]⟩, ⟨#[1]⟩⟩ := by kernel_rfl
theorem q_7 : rat1 7 1 = ⟨false, ⟨#[7]⟩, ⟨#[1]⟩⟩ := by kernel_rfl
theorem q_0 : rat1 0 1 = ⟨false, ⟨#[]⟩, ⟨#[1]⟩⟩ := by kernel_rfl
theorem div_64 : divR (rat1 6 1) (rat1 4 1) = (rat1 3 2, 0) := by kernel_rfl
theorem ce_32 : ceilR (rat1 3 2) = (2, 0) := by kernel_rfl
theorem mul_52 : mulR (rat1 5 2) (rat1 3 2) = (rat1 15 4, 0) := by kernel_rfl
theorem ch_sample : checkM sampleX = 0 := by kernel_rfl
theorem ch_done : checkM [⟨7, 0, 0, RV.zero⟩] = 0 := by kernel_rfl
theorem ch_fail : checkM [⟨8, 0, 0, RV.zero⟩] = 0 := by kernel_rfl
def doneX : List Ins := [⟨7, 0, 0, RV.zero⟩]
def failX : List Ins := [⟨8, 0, 0, RV.zero⟩]
def s1 : MS := ⟨rat1 3 2, [⟨1, rat1 15 4, false, true⟩], [⟨1, 6⟩], 2, 8, true⟩
def s2 : MS := ⟨rat1 6 1, [⟨3, rat1 42 1, true, false⟩], [], 0, 11, true⟩
def s3 : MS := ⟨rat1 0 1, [], [], 0, 1, true⟩
theorem run1 : runV sampleX [2, 3] (rat1 6 1) 20 = .ok (s1, 14) := by kernel_rfl
theorem run2 : runV sampleX [2, 2] (rat1 6 1) 20 = .ok (s2, 14) := by kernel_rfl
theorem run3 : runV sampleX [1, 9] (rat1 6 1) 5 = .ok (s2, 0) := by kernel_rfl
theorem run4 : runV sampleX [1, 9] (rat1 6 1) 4 = .error 170 := by kernel_rfl
theorem run5 : runV doneX [0] (rat1 1 1) 1 = .ok (s3, 0) := by kernel_rfl
theorem run6 : runV doneX [] (rat1 1 1) 1 = .error 1 := by kernel_rfl
theorem run7 : runV failX [0] (rat1 1 1) 1 = .error 160 := by kernel_rfl
end Go.Proofs.YteggbpaljmopoaaGreat
/- backflushlaw17: ratio. -/
namespace Go.Proofs.YteggbpaljmopoaaGreat
open Go.RowKit BF

theorem results_cell1 {fn : Func} {p : Tmp} {ty : TypeId} (h : fn.results = #[.cell p ty]) (tmps : Array Value) (P : Program) (w : World) :
    (results fn tmps).run P w = ((asAddr (tmps.getD p undef)).run P w).andThen fun a w₁ => (loadVar ty a).run P w₁ := by
  simp only [results, h]
  simp [Sem.run_bind, Result.andThen]
theorem ratio_box {w : World} {B : Nat} {a b c : Value} {T : TypeId} (h : Blk w B T #[a, b, c]) (x y z : Value) : ∃ W, ((w.setCell ⟨B, 0, none⟩ x).setCell ⟨B, 1, none⟩ y).setCell ⟨B, 2, none⟩ z = W ∧ Hid (Blk W B T #[x, y, z]) ∧ ∀ C w0, Below C w0 w → C ≤ B → Below C w0 W :=
  ⟨_, rfl, ((h.set (i := 0) x).set (i := 1) y).set (i := 2) z, fun C w0 hb hC => ((hb.setCell hC _).setCell hC _).setCell hC _⟩
set_option maxRecDepth 100000 in
set_option maxHeartbeats 1000000 in
theorem lratio_any (n d : Int) (hd : d ≠ 0) (h1 : -9223372036854775808 ≤ n) (h2 : n ≤ 9223372036854775807) (h3 : -9223372036854775808 ≤ d) (h4 : d ≤ 9223372036854775807) (w : World) :
    Calls Tryz.prog 13 #[.int .i64 n, .int .i64 d] w fun e w' => e = .returned (qV (newQ n d)) ∧ Below w.heap.size w w' := by
  have HN : Hid (∀ w : World, Calls Tryz.prog 18 #[.int .i64 n, .int .i64 d] w fun e w' => e = .returned (.tuple #[qV (newQ n d), .int .i64 0]) ∧ Below w.heap.size w w') := fun w => New_any n d hd h1 h2 h3 h4 w
  unfold qV rV at *
  generalize nat (newQ n d).num.natAbs = N at *
  generalize nat (newQ n d).den = D at *
  generalize decide (newQ n d < 0) = B0 at *
  clear hd h1 h2 h3 h4
  go_enter Tryz.func13, Tryz.ntmps13
  go_wp2_with (fail)
  refine (HN.out _).mono ?_
  rintro e w1 ⟨rfl, hb⟩
  have HA : Hid (Blk (w.alloc (.cells #[.bool false, .string { data := #[] }, .string { data := #[] }] 25)) w.heap.size 25 #[.bool false, .string { data := #[] }, .string { data := #[] }]) := Blk.new w _ _
  have HA1 := Lib.hid (HA.out.under hb)
  have HW1 := Lib.hid (((Below.refl _ w).alloc (Nat.le_refl _) (.cells #[.bool false, .string { data := #[] }, .string { data := #[] }] 25)).trans (hb.mono (by simp)))
  have HA2 := Lib.hid (HA1.out.alloc (.cells #[.bool B0, .string N, .string D] 25))
  have HW2 := Lib.hid (HW1.out.alloc HW1.out.size (.cells #[.bool B0, .string N, .string D] 25))
  obtain ⟨W3, hW3, HA3, HW3⟩ := ratio_box HA2.out (.bool B0) (.string N) (.string D)
  have HW4 := Lib.hid (HW3 _ _ HW2.out (Nat.le_refl _))
  have c0 := HA2.out.cell (i := 0) rfl
  have c1 := HA2.out.cell (i := 1) rfl
  have c2 := HA2.out.cell (i := 2) rfl
  have f0 := HA2.out.frozen
  have d0 := HA3.out.cell (i := 0) rfl
  have d1 := HA3.out.cell (i := 1) rfl
  have d2 := HA3.out.cell (i := 2) rfl
  clear hb HW3
  go_wp2_with (fail)
  refine bodyPost_ret (v := .agg #[.bool B0, .string N, .string D]) ?_ rfl ⟨rfl, HW4.out⟩
  rw [results_cell1 rfl]
  go_simp
end Go.Proofs.YteggbpaljmopoaaGreat
/- backflushlaw17: ratio at its numbers, sample. PRINTED BY wip/gen_sample.py -/
namespace Go.Proofs.YteggbpaljmopoaaGreat
open Go.RowKit BF
theorem q_4_1 : rat1 4 1 = ⟨false, ⟨#[4]⟩, ⟨#[1]⟩⟩ := by kernel_rfl
theorem fits_4_1 : (rat1 4 1).fits := by rw [q_4_1]; exact ⟨by decide, by decide⟩
theorem lr_4_1 (w : World) : Calls Tryz.prog 13 #[.int .i64 4, .int .i64 1] w fun e w' => e = .returned (.agg #[.bool false, .string { data := #[4] }, .string { data := #[1] }]) ∧ Below w.heap.size w w' := by
  have h := lratio_any 4 1 (by omega) (by omega) (by omega) (by omega) (by omega) w
  have e : qV (newQ 4 1) = .agg #[.bool false, .string { data := #[4] }, .string { data := #[1] }] := congrArg RV.v q_4_1
  rwa [e] at h
theorem q_5_2 : rat1 5 2 = ⟨false, ⟨#[5]⟩, ⟨#[2]⟩⟩ := by kernel_rfl
theorem fits_5_2 : (rat1 5 2).fits := by rw [q_5_2]; exact ⟨by decide, by decide⟩
theorem lr_5_2 (w : World) : Calls Tryz.prog 13 #[.int .i64 5, .int .i64 2] w fun e w' => e = .returned (.agg #[.bool false, .string { data := #[5] }, .string { data := #[2] }]) ∧ Below w.heap.size w w' := by
  have h := lratio_any 5 2 (by omega) (by omega) (by omega) (by omega) (by omega) w
  have e : qV (newQ 5 2) = .agg #[.bool false, .string { data := #[5] }, .string { data := #[2] }] := congrArg RV.v q_5_2
  rwa [e] at h
theorem q_1_1 : rat1 1 1 = ⟨false, ⟨#[1]⟩, ⟨#[1]⟩⟩ := by kernel_rfl
theorem fits_1_1 : (rat1 1 1).fits := by rw [q_1_1]; exact ⟨by decide, by decide⟩
theorem lr_1_1 (w : World) : Calls Tryz.prog 13 #[.int .i64 1, .int .i64 1] w fun e w' => e = .returned (.agg #[.bool false, .string { data := #[1] }, .string { data := #[1] }]) ∧ Below w.heap.size w w' := by
  have h := lratio_any 1 1 (by omega) (by omega) (by omega) (by omega) (by omega) w
  have e : qV (newQ 1 1) = .agg #[.bool false, .string { data := #[1] }, .string { data := #[1] }] := congrArg RV.v q_1_1
  rwa [e] at h
theorem q_7_1 : rat1 7 1 = ⟨false, ⟨#[7]⟩, ⟨#[1]⟩⟩ := by kernel_rfl
theorem fits_7_1 : (rat1 7 1).fits := by rw [q_7_1]; exact ⟨by decide, by decide⟩
theorem lr_7_1 (w : World) : Calls Tryz.prog 13 #[.int .i64 7, .int .i64 1] w fun e w' => e = .returned (.agg #[.bool false, .string { data := #[7] }, .string { data := #[1] }]) ∧ Below w.heap.size w w' := by
  have h := lratio_any 7 1 (by omega) (by omega) (by omega) (by omega) (by omega) w
  have e : qV (newQ 7 1) = .agg #[.bool false, .string { data := #[7] }, .string { data := #[1] }] := congrArg RV.v q_7_1
  rwa [e] at h
theorem q_6_1 : rat1 6 1 = ⟨false, ⟨#[6]⟩, ⟨#[1]⟩⟩ := by kernel_rfl
theorem fits_6_1 : (rat1 6 1).fits := by rw [q_6_1]; exact ⟨by decide, by decide⟩
theorem lr_6_1 (w : World) : Calls Tryz.prog 13 #[.int .i64 6, .int .i64 1] w fun e w' => e = .returned (.agg #[.bool false, .string { data := #[6] }, .string { data := #[1] }]) ∧ Below w.heap.size w w' := by
  have h := lratio_any 6 1 (by omega) (by omega) (by omega) (by omega) (by omega) w
  have e : qV (newQ 6 1) = .agg #[.bool false, .string { data := #[6] }, .string { data := #[1] }] := congrArg RV.v q_6_1
  rwa [e] at h
theorem q_15_4 : rat1 15 4 = ⟨false, ⟨#[15]⟩, ⟨#[4]⟩⟩ := by kernel_rfl
theorem fits_15_4 : (rat1 15 4).fits := by rw [q_15_4]; exact ⟨by decide, by decide⟩
theorem lr_15_4 (w : World) : Calls Tryz.prog 13 #[.int .i64 15, .int .i64 4] w fun e w' => e = .returned (.agg #[.bool false, .string { data := #[15] }, .string { data := #[4] }]) ∧ Below w.heap.size w w' := by
  have h := lratio_any 15 4 (by omega) (by omega) (by omega) (by omega) (by omega) w
  have e : qV (newQ 15 4) = .agg #[.bool false, .string { data := #[15] }, .string { data := #[4] }] := congrArg RV.v q_15_4
  rwa [e] at h
theorem q_42_1 : rat1 42 1 = ⟨false, ⟨#[42]⟩, ⟨#[1]⟩⟩ := by kernel_rfl
theorem fits_42_1 : (rat1 42 1).fits := by rw [q_42_1]; exact ⟨by decide, by decide⟩
theorem lr_42_1 (w : World) : Calls Tryz.prog 13 #[.int .i64 42, .int .i64 1] w fun e w' => e = .returned (.agg #[.bool false, .string { data := #[42] }, .string { data := #[1] }]) ∧ Below w.heap.size w w' := by
  have h := lratio_any 42 1 (by omega) (by omega) (by omega) (by omega) (by omega) w
  have e : qV (newQ 42 1) = .agg #[.bool false, .string { data := #[42] }, .string { data := #[1] }] := congrArg RV.v q_42_1
  rwa [e] at h
def sampleC : Array Value := #[.int .i64 1, .int .i64 0, .int .i64 2, .bool false, .string { data := #[] }, .string { data := #[] }, .int .i64 2, .int .i64 6, .int .i64 0, .bool false, .string { data := #[] }, .string { data := #[] }, .int .i64 1, .int .i64 (-1), .int .i64 3, .bool false, .string { data := #[] }, .string { data := #[] }, .int .i64 2, .int .i64 4, .int .i64 0, .bool false, .string { data := #[] }, .string { data := #[] }, .int .i64 3, .int .i64 5, .int .i64 2, .bool false, .string { data := #[4] }, .string { data := #[1] }, .int .i64 4, .int .i64 1, .int .i64 1, .bool false, .string { data := #[5] }, .string { data := #[2] }, .int .i64 6, .int .i64 1, .int .i64 3, .bool false, .string { data := #[] }, .string { data := #[] }, .int .i64 7, .int .i64 0, .int .i64 0, .bool false, .string { data := #[] }, .string { data := #[] }, .int .i64 3, .int .i64 0, .int .i64 0, .bool false, .string { data := #[1] }, .string { data := #[1] }, .int .i64 5, .int .i64 3, .int .i64 0, .bool false, .string { data := #[7] }, .string { data := #[1] }, .int .i64 7, .int .i64 0, .int .i64 0, .bool false, .string { data := #[] }, .string { data := #[] }]
theorem sample_code {W : World} {g : Nat} (h : Blk W g 40 sampleC) : CodeIs W (.slice (some ⟨g, 0, none⟩) 11 11) sampleX := by
  refine .inr ⟨g, 0, 11, rfl, by simp [sampleX], h.lt, ?_⟩
  intro j hj
  have hl : sampleX.length = 11 := rfl
  rcases j with _ | _ | _ | _ | _ | _ | _ | _ | _ | _ | _ | j
  · exact ⟨h.cell (i := 0) rfl, h.cell (i := 1) rfl, h.cell (i := 2) rfl, h.cell (i := 3) rfl, h.cell (i := 4) rfl, h.cell (i := 5) rfl⟩
  · exact ⟨h.cell (i := 6) rfl, h.cell (i := 7) rfl, h.cell (i := 8) rfl, h.cell (i := 9) rfl, h.cell (i := 10) rfl, h.cell (i := 11) rfl⟩
  · exact ⟨h.cell (i := 12) rfl, h.cell (i := 13) rfl, h.cell (i := 14) rfl, h.cell (i := 15) rfl, h.cell (i := 16) rfl, h.cell (i := 17) rfl⟩
  · exact ⟨h.cell (i := 18) rfl, h.cell (i := 19) rfl, h.cell (i := 20) rfl, h.cell (i := 21) rfl, h.cell (i := 22) rfl, h.cell (i := 23) rfl⟩
  · exact ⟨h.cell (i := 24) rfl, h.cell (i := 25) rfl, h.cell (i := 26) rfl, h.cell (i := 27) rfl, h.cell (i := 28) rfl, h.cell (i := 29) rfl⟩
  · exact ⟨h.cell (i := 30) rfl, h.cell (i := 31) rfl, h.cell (i := 32) rfl, h.cell (i := 33) rfl, h.cell (i := 34) rfl, h.cell (i := 35) rfl⟩
  · exact ⟨h.cell (i := 36) rfl, h.cell (i := 37) rfl, h.cell (i := 38) rfl, h.cell (i := 39) rfl, h.cell (i := 40) rfl, h.cell (i := 41) rfl⟩
  · exact ⟨h.cell (i := 42) rfl, h.cell (i := 43) rfl, h.cell (i := 44) rfl, h.cell (i := 45) rfl, h.cell (i := 46) rfl, h.cell (i := 47) rfl⟩
  · exact ⟨h.cell (i := 48) rfl, h.cell (i := 49) rfl, h.cell (i := 50) rfl, h.cell (i := 51) rfl, h.cell (i := 52) rfl, h.cell (i := 53) rfl⟩
  · exact ⟨h.cell (i := 54) rfl, h.cell (i := 55) rfl, h.cell (i := 56) rfl, h.cell (i := 57) rfl, h.cell (i := 58) rfl, h.cell (i := 59) rfl⟩
  · exact ⟨h.cell (i := 60) rfl, h.cell (i := 61) rfl, h.cell (i := 62) rfl, h.cell (i := 63) rfl, h.cell (i := 64) rfl, h.cell (i := 65) rfl⟩
  · omega
def SampPost (w : World) (e : Ending) (w' : World) : Prop := ∃ v, e = .returned v ∧ CodeIs w' v sampleX ∧ Below w.heap.size w w'
set_option maxRecDepth 100000 in
set_option maxHeartbeats 2000000 in
theorem sample_is (w : World) : Calls Tryz.prog 14 #[] w (SampPost w) := by
  go_enter Tryz.func14, Tryz.ntmps14
  go_wp2_with (fail)
  refine (lr_4_1 _).mono ?_
  rintro e w1 ⟨rfl, hb1⟩
  have HW1 := Lib.hid hb1
  clear hb1
  go_wp2_with (fail)
  refine (lr_5_2 _).mono ?_
  rintro e w2 ⟨rfl, hb1⟩
  have HW2 := Lib.hid (HW1.out.trans (hb1.mono HW1.out.size))
  clear hb1
  go_wp2_with (fail)
  refine (lr_1_1 _).mono ?_
  rintro e w3 ⟨rfl, hb1⟩
  have HW3 := Lib.hid (HW2.out.trans (hb1.mono HW2.out.size))
  clear hb1
  go_wp2_with (fail)
  refine (lr_7_1 _).mono ?_
  rintro e w4 ⟨rfl, hb1⟩
  have HW4 := Lib.hid (HW3.out.trans (hb1.mono HW3.out.size))
  clear hb1
  go_wp2_with (fail)
  go_ret
  exact ⟨_, rfl, sample_code (Blk.new w4 _ sampleC), HW4.out.alloc HW4.out.size _⟩
end Go.Proofs.YteggbpaljmopoaaGreat
/- backflushlaw17: its examples hold. PRINTED BY wip/gen_sane.py -/
namespace Go.Proofs.YteggbpaljmopoaaGreat
open Go.RowKit BF
def Nx (w w' : World) : Prop := Below w.heap.size w w'
theorem Nx.refl (w : World) : Nx w w := Below.refl _ _
theorem Nx.step {w w' w'' : World} (h : Nx w w') (h' : Below w'.heap.size w' w'') : Nx w w'' := Below.trans h (h'.mono (Below.size h))
theorem Nx.al (w : World) (o : Obj) : Nx w (w.alloc o) := (Below.refl _ w).alloc (Nat.le_refl _) o
theorem ints_1 (W : World) (a : Int) : IntsIs (W.alloc (.cells #[.int .i64 a] 3)) (.slice (some ⟨W.heap.size, 0, none⟩) 1 1) [a] := by
  have h := Blk.new W 3 #[.int .i64 a]
  refine .inr ⟨_, 0, 1, rfl, by simp, h.lt, ?_⟩
  intro j hj
  rcases j with _ | j
  · exact h.cell (i := 0) rfl
  · simp at hj
theorem ints_2 (W : World) (a b : Int) : IntsIs (W.alloc (.cells #[.int .i64 a, .int .i64 b] 3)) (.slice (some ⟨W.heap.size, 0, none⟩) 2 2) [a, b] := by
  have h := Blk.new W 3 #[.int .i64 a, .int .i64 b]
  refine .inr ⟨_, 0, 2, rfl, by simp, h.lt, ?_⟩
  intro j hj
  rcases j with _ | _ | j
  · exact h.cell (i := 0) rfl
  · exact h.cell (i := 1) rfl
  · simp at hj; omega
theorem code_1 (W : World) (k : Int) : CodeIs (W.alloc (.cells #[.int .i64 k, .int .i64 0, .int .i64 0, .bool false, .string { data := #[] }, .string { data := #[] }] 40)) (.slice (some ⟨W.heap.size, 0, none⟩) 1 1) [⟨k, 0, 0, RV.zero⟩] := by
  have h := Blk.new W 40 #[.int .i64 k, .int .i64 0, .int .i64 0, .bool false, .string { data := #[] }, .string { data := #[] }]
  refine .inr ⟨_, 0, 1, rfl, by simp, h.lt, ?_⟩
  intro j hj
  rcases j with _ | j
  · exact ⟨h.cell (i := 0) rfl, h.cell (i := 1) rfl, h.cell (i := 2) rfl, h.cell (i := 3) rfl, h.cell (i := 4) rfl, h.cell (i := 5) rfl⟩
  · simp at hj
theorem use_1 (W : World) (u : UseV) : RowIs UseAt 6 (W.alloc (.cells #[.int .i64 u.item, .bool u.amount.neg, .string u.amount.n, .string u.amount.d, .bool u.out, .bool u.back] 58)) (.slice (some ⟨W.heap.size, 0, none⟩) 1 1) [u] := by
  have h := Blk.new W 58 #[.int .i64 u.item, .bool u.amount.neg, .string u.amount.n, .string u.amount.d, .bool u.out, .bool u.back]
  refine .inr ⟨_, 0, 1, rfl, by simp, h.lt, by simp [maxLen], ?_⟩
  intro j hj
  rcases j with _ | j
  · exact ⟨h.cell (i := 0) rfl, h.cell (i := 1) rfl, h.cell (i := 2) rfl, h.cell (i := 3) rfl, h.cell (i := 4) rfl, h.cell (i := 5) rfl⟩
  · simp at hj
theorem work_1 (W : World) (u : WorkV) : RowIs WorkAt 2 (W.alloc (.cells #[.int .i64 u.machine, .int .i64 u.slots] 60)) (.slice (some ⟨W.heap.size, 0, none⟩) 1 1) [u] := by
  have h := Blk.new W 60 #[.int .i64 u.machine, .int .i64 u.slots]
  refine .inr ⟨_, 0, 1, rfl, by simp, h.lt, by simp [maxLen], ?_⟩
  intro j hj
  rcases j with _ | j
  · exact ⟨h.cell (i := 0) rfl, h.cell (i := 1) rfl⟩
  · simp at hj
theorem fits_sample : ∀ x ∈ sampleX, x.r.fits := by
  intro x hx
  simp only [sampleX, List.mem_cons, List.not_mem_nil, or_false] at hx
  rcases hx with rfl | rfl | rfl | rfl | rfl | rfl | rfl | rfl | rfl | rfl | rfl <;> first | exact RV.fits_zero | exact fits_4_1 | exact fits_5_2 | exact fits_1_1 | exact fits_7_1
theorem fits_k (k : Int) : ∀ x ∈ ([⟨k, 0, 0, RV.zero⟩] : List Ins), x.r.fits := by
  intro x hx
  simp only [List.mem_cons, List.not_mem_nil, or_false] at hx
  subst hx
  exact RV.fits_zero
def SRunOk (s : MS) (left : Int) (w : World) (e : Ending) (w' : World) : Prop :=
  ∃ u k, e = .returned (.tuple #[u, k, .int .i64 s.lead, .int .i64 left, .int .i64 0]) ∧ RowIs UseAt 6 w' u s.us ∧ RowIs WorkAt 2 w' k s.ws ∧ Below w.heap.size w w'
theorem srunOk {xs : List Ins} {cs : List Int} {am : RV} {fuel : Int} {s : MS} {left : Nat} (h : runV xs cs am fuel = .ok (s, left)) (cv sv av : Value) (w : World) (hv : av = am.v) (hx : CodeIs w cv xs) (hl : xs.length ≤ 60) (hf : ∀ x ∈ xs, x.r.fits) (ha : am.fits) (hs : IntsIs w sv cs) (hcl : cs.length ≤ 1000)
    (hfu : fuel ≤ 9223372036854775807) : Calls Tryz.prog 7 #[cv, sv, av, .int .i64 fuel] w (SRunOk s left w) := by
  subst hv
  refine (Run_any xs cs am fuel cv sv w hx hl hf ha hs hcl hfu).mono ?_
  rw [h]
  rintro e w' ⟨hb, u, k, rfl, h1, h2⟩
  exact ⟨u, k, rfl, uses_row h1, work_row h2, hb⟩
theorem srunBad {xs : List Ins} {cs : List Int} {am : RV} {fuel k : Int} (h : runV xs cs am fuel = .error k) (cv sv av : Value) (w : World) (hv : av = am.v) (hx : CodeIs w cv xs) (hl : xs.length ≤ 60) (hf : ∀ x ∈ xs, x.r.fits) (ha : am.fits) (hs : IntsIs w sv cs) (hcl : cs.length ≤ 1000)
    (hfu : fuel ≤ 9223372036854775807) : Calls Tryz.prog 7 #[cv, sv, av, .int .i64 fuel] w fun e w' => e = .returned (.tuple #[.slice none 0 0, .slice none 0 0, .int .i64 0, .int .i64 0, .int .i64 k]) ∧ Below w.heap.size w w' := by
  subst hv
  refine (Run_any xs cs am fuel cv sv w hx hl hf ha hs hcl hfu).mono ?_
  rw [h]
  exact fun e w' h => h
theorem rv_6 : (.agg #[.bool false, .string { data := #[6] }, .string { data := #[1] }] : Value) = (rat1 6 1).v := congrArg RV.v q_6_1.symm
theorem rv_1 : (.agg #[.bool false, .string { data := #[1] }, .string { data := #[1] }] : Value) = (rat1 1 1).v := congrArg RV.v q_1_1.symm
theorem under_use {w w' : World} {v : Value} {us : List UseV} (h : RowIs UseAt 6 w v us) (hb : Nx w w') : RowIs UseAt 6 w' v us := uses_under h hb
theorem under_work {w w' : World} {v : Value} {us : List WorkV} (h : RowIs WorkAt 2 w v us) (hb : Nx w w') : RowIs WorkAt 2 w' v us := work_under h hb
def ru1 : UseV := ⟨1, ⟨false, { data := #[15] }, { data := #[4] }⟩, false, true⟩
def ru2 : UseV := ⟨3, ⟨false, { data := #[42] }, { data := #[1] }⟩, true, false⟩
def rw1 : WorkV := ⟨1, 6⟩
def Run1 (w : World) (e : Ending) (w' : World) : Prop := ∃ u k, e = .returned (.tuple #[u, k, .int .i64 2, .int .i64 14, .int .i64 0]) ∧ RowIs UseAt 6 w' u [ru1] ∧ RowIs WorkAt 2 w' k [rw1] ∧ Below w.heap.size w w'
def Run2 (left : Int) (w : World) (e : Ending) (w' : World) : Prop := ∃ u p c, e = .returned (.tuple #[u, .slice p 0 c, .int .i64 0, .int .i64 left, .int .i64 0]) ∧ RowIs UseAt 6 w' u [ru2] ∧ Below w.heap.size w w'
def Run3 (w : World) (e : Ending) (w' : World) : Prop := ∃ u k, e = .returned (.tuple #[u, k, .int .i64 0, .int .i64 0, .int .i64 0]) ∧ Below w.heap.size w w'
theorem us_1 : s1.us = [ru1] := by kernel_rfl
theorem us_2 : s2.us = [ru2] := by kernel_rfl
theorem srun1 (cv sv : Value) (w : World) (hx : CodeIs w cv sampleX) (hs : IntsIs w sv [2, 3]) : Calls Tryz.prog 7 #[cv, sv, .agg #[.bool false, .string { data := #[6] }, .string { data := #[1] }], .int .i64 20] w (Run1 w) := by
  refine (srunOk run1 cv sv _ w rv_6 hx (by decide) fits_sample fits_6_1 hs (by decide) (by decide)).mono ?_
  rintro e w' ⟨u, k, rfl, h1, h2, hb⟩
  rw [us_1] at h1
  exact ⟨u, k, rfl, h1, h2, hb⟩
theorem srun2 (cv sv : Value) (w : World) (hx : CodeIs w cv sampleX) (hs : IntsIs w sv [2, 2]) : Calls Tryz.prog 7 #[cv, sv, .agg #[.bool false, .string { data := #[6] }, .string { data := #[1] }], .int .i64 20] w (Run2 14 w) := by
  refine (srunOk run2 cv sv _ w rv_6 hx (by decide) fits_sample fits_6_1 hs (by decide) (by decide)).mono ?_
  rintro e w' ⟨u, k, rfl, h1, h2, hb⟩
  rw [us_2] at h1
  rcases h2 with ⟨p, c, rfl, _⟩ | ⟨_, _, _, _, h, _⟩
  · exact ⟨u, p, c, rfl, h1, hb⟩
  · exact absurd rfl h
theorem srun3 (cv sv : Value) (w : World) (hx : CodeIs w cv sampleX) (hs : IntsIs w sv [1, 9]) : Calls Tryz.prog 7 #[cv, sv, .agg #[.bool false, .string { data := #[6] }, .string { data := #[1] }], .int .i64 5] w (Run2 0 w) := by
  refine (srunOk run3 cv sv _ w rv_6 hx (by decide) fits_sample fits_6_1 hs (by decide) (by decide)).mono ?_
  rintro e w' ⟨u, k, rfl, h1, h2, hb⟩
  rw [us_2] at h1
  rcases h2 with ⟨p, c, rfl, _⟩ | ⟨_, _, _, _, h, _⟩
  · exact ⟨u, p, c, rfl, h1, hb⟩
  · exact absurd rfl h
def RunB (k : Int) (w : World) (e : Ending) (w' : World) : Prop := e = .returned (.tuple #[.slice none 0 0, .slice none 0 0, .int .i64 0, .int .i64 0, .int .i64 k]) ∧ Below w.heap.size w w'
theorem srun4 (cv sv : Value) (w : World) (hx : CodeIs w cv sampleX) (hs : IntsIs w sv [1, 9]) : Calls Tryz.prog 7 #[cv, sv, .agg #[.bool false, .string { data := #[6] }, .string { data := #[1] }], .int .i64 4] w (RunB 170 w) :=
  srunBad run4 cv sv _ w rv_6 hx (by decide) fits_sample fits_6_1 hs (by decide) (by decide)
theorem srun5 (cv sv : Value) (w : World) (hx : CodeIs w cv doneX) (hs : IntsIs w sv [0]) : Calls Tryz.prog 7 #[cv, sv, .agg #[.bool false, .string { data := #[1] }, .string { data := #[1] }], .int .i64 1] w (Run3 w) := by
  refine (srunOk run5 cv sv _ w rv_1 hx (by decide) (fits_k 7) fits_1_1 hs (by decide) (by decide)).mono ?_
  rintro e w' ⟨u, k, rfl, h1, h2, hb⟩
  exact ⟨u, k, rfl, hb⟩
theorem srun6 (cv sv : Value) (w : World) (hx : CodeIs w cv doneX) (hs : IntsIs w sv []) : Calls Tryz.prog 7 #[cv, sv, .agg #[.bool false, .string { data := #[1] }, .string { data := #[1] }], .int .i64 1] w (RunB 1 w) :=
  srunBad run6 cv sv _ w rv_1 hx (by decide) (fits_k 7) fits_1_1 hs (by decide) (by decide)
theorem srun7 (cv sv : Value) (w : World) (hx : CodeIs w cv failX) (hs : IntsIs w sv [0]) : Calls Tryz.prog 7 #[cv, sv, .agg #[.bool false, .string { data := #[1] }, .string { data := #[1] }], .int .i64 1] w (RunB 160 w) :=
  srunBad run7 cv sv _ w rv_1 hx (by decide) (fits_k 8) fits_1_1 hs (by decide) (by decide)
theorem same_u (u v : Value) (us : List UseV) (w : World) (hu : RowIs UseAt 6 w u us) (hv : RowIs UseAt 6 w v us) : Calls Tryz.prog 11 #[u, v] w fun e w' => e = .returned (.bool true) ∧ Below w.heap.size w w' := by
  have h := SameUses_any u v us us w hu hv
  rwa [decide_eq_true rfl] at h
theorem same_w (u v : Value) (us : List WorkV) (w : World) (hu : RowIs WorkAt 2 w u us) (hv : RowIs WorkAt 2 w v us) : Calls Tryz.prog 12 #[u, v] w fun e w' => e = .returned (.bool true) ∧ Below w.heap.size w w' := by
  have h := SameWork_any u v us us w hu hv
  rwa [decide_eq_true rfl] at h
theorem check_nil (w : World) : Calls Tryz.prog 9 #[.slice none 0 0] w fun e w' => e = .returned (.int .i64 171) ∧ Below w.heap.size w w' :=
  MCheck_is w _ [] (.inl ⟨none, 0, rfl, rfl⟩) (by decide) (fun _ h => by cases h)
theorem check_samp (v : Value) (w : World) (h : CodeIs w v sampleX) : Calls Tryz.prog 9 #[v] w fun e w' => e = .returned (.int .i64 0) ∧ Below w.heap.size w w' := by
  have h := MCheck_is w v sampleX h (by decide) fits_sample
  rwa [ch_sample] at h
set_option maxRecDepth 100000 in
set_option maxHeartbeats 8000000 in
theorem sane_is (w : World) : Calls Tryz.prog 4 #[] w fun e w' => e = .returned (.bool true) ∧ Below w.heap.size w w' := by
  have M : Hid (Nx w w) := Nx.refl w
  go_enter Tryz.func4, Tryz.ntmps4
  go_wp2_with (fail)
  refine (lr_1_1 _).mono ?_
  rintro e w1 ⟨rfl, hb⟩
  have M_1 := Lib.hid (M.out.step hb)
  clear M
  clear hb
  obtain ⟨V2, hV2⟩ : ∃ V, w1.alloc (.cells #[.bool false, .string { data := #[1] }, .string { data := #[1] }] 25) = V := ⟨_, rfl⟩
  have hb2 : Below w1.heap.size w1 V2 := by rw [← hV2]; exact Nx.al _ _
  have M_2 := Lib.hid (M_1.out.step hb2)
  clear M_1
  clear hb2
  have O_2 := Lib.hid (Blk.new w1 25 #[.bool false, .string { data := #[1] }, .string { data := #[1] }])
  rw [hV2] at O_2
  have o0 := O_2.out.cell (i := 0) rfl
  have o1 := O_2.out.cell (i := 1) rfl
  have o2 := O_2.out.cell (i := 2) rfl
  clear o0 o1 o2
  obtain ⟨V3, hV3⟩ : ∃ V, V2.alloc (.cells #[.int .i64 7, .int .i64 0, .int .i64 0, .bool false, .string { data := #[] }, .string { data := #[] }] 40) = V := ⟨_, rfl⟩
  have hb3 : Below V2.heap.size V2 V3 := by rw [← hV3]; exact Nx.al _ _
  have M_3 := Lib.hid (M_2.out.step hb3)
  have O_3 := Lib.hid (O_2.out.under hb3)
  clear M_2 O_2
  clear hb3
  have D_3 := Lib.hid (code_1 V2 7)
  rw [hV3] at D_3
  go_wp2_with (fail)
  refine (sample_is _).mono ?_
  rintro e w4 ⟨vc1, rfl, hc, hb⟩
  clear hV2 hV3
  have M_4 := Lib.hid (M_3.out.step hb)
  have O_4 := Lib.hid (O_3.out.under hb)
  have D_4 := Lib.hid (D_3.out.under hb)
  clear M_3 O_3 D_3
  clear hb
  have C_4 := Lib.hid hc
  clear hc
  obtain ⟨V5, hV5⟩ : ∃ V, w4.alloc (.cells #[.int .i64 2, .int .i64 3] 3) = V := ⟨_, rfl⟩
  have hb5 : Below w4.heap.size w4 V5 := by rw [← hV5]; exact Nx.al _ _
  have M_5 := Lib.hid (M_4.out.step hb5)
  have O_5 := Lib.hid (O_4.out.under hb5)
  have D_5 := Lib.hid (D_4.out.under hb5)
  have C_5 := Lib.hid (C_4.out.under hb5)
  clear M_4 O_4 D_4 C_4
  clear hb5
  have I_5 := Lib.hid (ints_2 w4 2 3)
  rw [hV5] at I_5
  go_wp2_with (fail)
  refine (lr_6_1 _).mono ?_
  rintro e w6 ⟨rfl, hb⟩
  clear hV5
  have M_6 := Lib.hid (M_5.out.step hb)
  have O_6 := Lib.hid (O_5.out.under hb)
  have D_6 := Lib.hid (D_5.out.under hb)
  have C_6 := Lib.hid (C_5.out.under hb)
  have I_6 := Lib.hid (I_5.out.under hb)
  clear M_5 O_5 D_5 C_5 I_5
  clear hb
  go_wp2_with (fail)
  refine (srun1 _ _ _ C_6.out I_6.out).mono ?_
  rintro e w7 ⟨u1, k1, rfl, hu, hk, hb⟩
  have M_7 := Lib.hid (M_6.out.step hb)
  have O_7 := Lib.hid (O_6.out.under hb)
  have D_7 := Lib.hid (D_6.out.under hb)
  have C_7 := Lib.hid (C_6.out.under hb)
  have I_7 := Lib.hid (I_6.out.under hb)
  clear M_6 O_6 D_6 C_6 I_6
  clear hb
  have U1_7 := Lib.hid hu
  clear hu
  have K1_7 := Lib.hid hk
  clear hk
  clear C_7
  clear I_7
  go_wp2_with (fail)
  refine (sample_is _).mono ?_
  rintro e w8 ⟨vc2, rfl, hc, hb⟩
  have M_8 := Lib.hid (M_7.out.step hb)
  have O_8 := Lib.hid (O_7.out.under hb)
  have D_8 := Lib.hid (D_7.out.under hb)
  have U1_8 := Lib.hid (under_use U1_7.out hb)
  have K1_8 := Lib.hid (under_work K1_7.out hb)
  clear M_7 O_7 D_7 U1_7 K1_7
  clear hb
  have C_8 := Lib.hid hc
  clear hc
  obtain ⟨V9, hV9⟩ : ∃ V, w8.alloc (.cells #[.int .i64 2, .int .i64 2] 3) = V := ⟨_, rfl⟩
  have hb9 : Below w8.heap.size w8 V9 := by rw [← hV9]; exact Nx.al _ _
  have M_9 := Lib.hid (M_8.out.step hb9)
  have O_9 := Lib.hid (O_8.out.under hb9)
  have D_9 := Lib.hid (D_8.out.under hb9)
  have U1_9 := Lib.hid (under_use U1_8.out hb9)
  have K1_9 := Lib.hid (under_work K1_8.out hb9)
  have C_9 := Lib.hid (C_8.out.under hb9)
  clear M_8 O_8 D_8 U1_8 K1_8 C_8
  clear hb9
  have I_9 := Lib.hid (ints_2 w8 2 2)
  rw [hV9] at I_9
  go_wp2_with (fail)
  refine (lr_6_1 _).mono ?_
  rintro e w10 ⟨rfl, hb⟩
  clear hV9
  have M_10 := Lib.hid (M_9.out.step hb)
  have O_10 := Lib.hid (O_9.out.under hb)
  have D_10 := Lib.hid (D_9.out.under hb)
  have U1_10 := Lib.hid (under_use U1_9.out hb)
  have K1_10 := Lib.hid (under_work K1_9.out hb)
  have C_10 := Lib.hid (C_9.out.under hb)
  have I_10 := Lib.hid (I_9.out.under hb)
  clear M_9 O_9 D_9 U1_9 K1_9 C_9 I_9
  clear hb
  go_wp2_with (fail)
  refine (srun2 _ _ _ C_10.out I_10.out).mono ?_
  rintro e w11 ⟨u2, p2, c2, rfl, hu, hb⟩
  have M_11 := Lib.hid (M_10.out.step hb)
  have O_11 := Lib.hid (O_10.out.under hb)
  have D_11 := Lib.hid (D_10.out.under hb)
  have U1_11 := Lib.hid (under_use U1_10.out hb)
  have K1_11 := Lib.hid (under_work K1_10.out hb)
  have C_11 := Lib.hid (C_10.out.under hb)
  have I_11 := Lib.hid (I_10.out.under hb)
  clear M_10 O_10 D_10 U1_10 K1_10 C_10 I_10
  clear hb
  have U2_11 := Lib.hid hu
  clear hu
  clear C_11
  clear I_11
  go_wp2_with (fail)
  refine (sample_is _).mono ?_
  rintro e w12 ⟨vc3, rfl, hc, hb⟩
  have M_12 := Lib.hid (M_11.out.step hb)
  have O_12 := Lib.hid (O_11.out.under hb)
  have D_12 := Lib.hid (D_11.out.under hb)
  have U1_12 := Lib.hid (under_use U1_11.out hb)
  have K1_12 := Lib.hid (under_work K1_11.out hb)
  have U2_12 := Lib.hid (under_use U2_11.out hb)
  clear M_11 O_11 D_11 U1_11 K1_11 U2_11
  clear hb
  have C_12 := Lib.hid hc
  clear hc
  obtain ⟨V13, hV13⟩ : ∃ V, w12.alloc (.cells #[.int .i64 1, .int .i64 9] 3) = V := ⟨_, rfl⟩
  have hb13 : Below w12.heap.size w12 V13 := by rw [← hV13]; exact Nx.al _ _
  have M_13 := Lib.hid (M_12.out.step hb13)
  have O_13 := Lib.hid (O_12.out.under hb13)
  have D_13 := Lib.hid (D_12.out.under hb13)
  have U1_13 := Lib.hid (under_use U1_12.out hb13)
  have K1_13 := Lib.hid (under_work K1_12.out hb13)
  have U2_13 := Lib.hid (under_use U2_12.out hb13)
  have C_13 := Lib.hid (C_12.out.under hb13)
  clear M_12 O_12 D_12 U1_12 K1_12 U2_12 C_12
  clear hb13
  have I_13 := Lib.hid (ints_2 w12 1 9)
  rw [hV13] at I_13
  go_wp2_with (fail)
  refine (lr_6_1 _).mono ?_
  rintro e w14 ⟨rfl, hb⟩
  clear hV13
  have M_14 := Lib.hid (M_13.out.step hb)
  have O_14 := Lib.hid (O_13.out.under hb)
  have D_14 := Lib.hid (D_13.out.under hb)
  have U1_14 := Lib.hid (under_use U1_13.out hb)
  have K1_14 := Lib.hid (under_work K1_13.out hb)
  have U2_14 := Lib.hid (under_use U2_13.out hb)
  have C_14 := Lib.hid (C_13.out.under hb)
  have I_14 := Lib.hid (I_13.out.under hb)
  clear M_13 O_13 D_13 U1_13 K1_13 U2_13 C_13 I_13
  clear hb
  go_wp2_with (fail)
  refine (srun3 _ _ _ C_14.out I_14.out).mono ?_
  rintro e w15 ⟨u3, p3, c3, rfl, hu, hb⟩
  have M_15 := Lib.hid (M_14.out.step hb)
  have O_15 := Lib.hid (O_14.out.under hb)
  have D_15 := Lib.hid (D_14.out.under hb)
  have U1_15 := Lib.hid (under_use U1_14.out hb)
  have K1_15 := Lib.hid (under_work K1_14.out hb)
  have U2_15 := Lib.hid (under_use U2_14.out hb)
  have C_15 := Lib.hid (C_14.out.under hb)
  have I_15 := Lib.hid (I_14.out.under hb)
  clear M_14 O_14 D_14 U1_14 K1_14 U2_14 C_14 I_14
  clear hb
  have U3_15 := Lib.hid hu
  clear hu
  clear C_15
  clear I_15
  go_wp2_with (fail)
  refine (sample_is _).mono ?_
  rintro e w16 ⟨vc4, rfl, hc, hb⟩
  have M_16 := Lib.hid (M_15.out.step hb)
  have O_16 := Lib.hid (O_15.out.under hb)
  have D_16 := Lib.hid (D_15.out.under hb)
  have U1_16 := Lib.hid (under_use U1_15.out hb)
  have K1_16 := Lib.hid (under_work K1_15.out hb)
  have U2_16 := Lib.hid (under_use U2_15.out hb)
  have U3_16 := Lib.hid (under_use U3_15.out hb)
  clear M_15 O_15 D_15 U1_15 K1_15 U2_15 U3_15
  clear hb
  have C_16 := Lib.hid hc
  clear hc
  obtain ⟨V17, hV17⟩ : ∃ V, w16.alloc (.cells #[.int .i64 1, .int .i64 9] 3) = V := ⟨_, rfl⟩
  have hb17 : Below w16.heap.size w16 V17 := by rw [← hV17]; exact Nx.al _ _
  have M_17 := Lib.hid (M_16.out.step hb17)
  have O_17 := Lib.hid (O_16.out.under hb17)
  have D_17 := Lib.hid (D_16.out.under hb17)
  have U1_17 := Lib.hid (under_use U1_16.out hb17)
  have K1_17 := Lib.hid (under_work K1_16.out hb17)
  have U2_17 := Lib.hid (under_use U2_16.out hb17)
  have U3_17 := Lib.hid (under_use U3_16.out hb17)
  have C_17 := Lib.hid (C_16.out.under hb17)
  clear M_16 O_16 D_16 U1_16 K1_16 U2_16 U3_16 C_16
  clear hb17
  have I_17 := Lib.hid (ints_2 w16 1 9)
  rw [hV17] at I_17
  go_wp2_with (fail)
  refine (lr_6_1 _).mono ?_
  rintro e w18 ⟨rfl, hb⟩
  clear hV17
  have M_18 := Lib.hid (M_17.out.step hb)
  have O_18 := Lib.hid (O_17.out.under hb)
  have D_18 := Lib.hid (D_17.out.under hb)
  have U1_18 := Lib.hid (under_use U1_17.out hb)
  have K1_18 := Lib.hid (under_work K1_17.out hb)
  have U2_18 := Lib.hid (under_use U2_17.out hb)
  have U3_18 := Lib.hid (under_use U3_17.out hb)
  have C_18 := Lib.hid (C_17.out.under hb)
  have I_18 := Lib.hid (I_17.out.under hb)
  clear M_17 O_17 D_17 U1_17 K1_17 U2_17 U3_17 C_17 I_17
  clear hb
  go_wp2_with (fail)
  refine (srun4 _ _ _ C_18.out I_18.out).mono ?_
  rintro e w19 ⟨rfl, hb⟩
  have M_19 := Lib.hid (M_18.out.step hb)
  have O_19 := Lib.hid (O_18.out.under hb)
  have D_19 := Lib.hid (D_18.out.under hb)
  have U1_19 := Lib.hid (under_use U1_18.out hb)
  have K1_19 := Lib.hid (under_work K1_18.out hb)
  have U2_19 := Lib.hid (under_use U2_18.out hb)
  have U3_19 := Lib.hid (under_use U3_18.out hb)
  have C_19 := Lib.hid (C_18.out.under hb)
  have I_19 := Lib.hid (I_18.out.under hb)
  clear M_18 O_18 D_18 U1_18 K1_18 U2_18 U3_18 C_18 I_18
  clear hb
  clear C_19
  clear I_19
  obtain ⟨V20, hV20⟩ : ∃ V, w19.alloc (.cells #[.int .i64 0] 3) = V := ⟨_, rfl⟩
  have hb20 : Below w19.heap.size w19 V20 := by rw [← hV20]; exact Nx.al _ _
  have M_20 := Lib.hid (M_19.out.step hb20)
  have O_20 := Lib.hid (O_19.out.under hb20)
  have D_20 := Lib.hid (D_19.out.under hb20)
  have U1_20 := Lib.hid (under_use U1_19.out hb20)
  have K1_20 := Lib.hid (under_work K1_19.out hb20)
  have U2_20 := Lib.hid (under_use U2_19.out hb20)
  have U3_20 := Lib.hid (under_use U3_19.out hb20)
  clear M_19 O_19 D_19 U1_19 K1_19 U2_19 U3_19
  clear hb20
  have I_20 := Lib.hid (ints_1 w19 0)
  rw [hV20] at I_20
  have o0 := O_20.out.cell (i := 0) rfl
  have o1 := O_20.out.cell (i := 1) rfl
  have o2 := O_20.out.cell (i := 2) rfl
  go_wp2_with (fail)
  refine (srun5 _ _ _ D_20.out I_20.out).mono ?_
  rintro e w21 ⟨u5, k5, rfl, hb⟩
  clear hV20
  have M_21 := Lib.hid (M_20.out.step hb)
  have O_21 := Lib.hid (O_20.out.under hb)
  have D_21 := Lib.hid (D_20.out.under hb)
  have U1_21 := Lib.hid (under_use U1_20.out hb)
  have K1_21 := Lib.hid (under_work K1_20.out hb)
  have U2_21 := Lib.hid (under_use U2_20.out hb)
  have U3_21 := Lib.hid (under_use U3_20.out hb)
  have I_21 := Lib.hid (I_20.out.under hb)
  clear M_20 O_20 D_20 U1_20 K1_20 U2_20 U3_20 I_20
  clear hb
  clear o0 o1 o2
  clear I_21
  have o0 := O_21.out.cell (i := 0) rfl
  have o1 := O_21.out.cell (i := 1) rfl
  have o2 := O_21.out.cell (i := 2) rfl
  go_wp2_with (fail)
  refine (srun6 _ _ _ D_21.out (.inl ⟨none, 0, rfl, rfl⟩)).mono ?_
  rintro e w22 ⟨rfl, hb⟩
  have M_22 := Lib.hid (M_21.out.step hb)
  have O_22 := Lib.hid (O_21.out.under hb)
  have D_22 := Lib.hid (D_21.out.under hb)
  have U1_22 := Lib.hid (under_use U1_21.out hb)
  have K1_22 := Lib.hid (under_work K1_21.out hb)
  have U2_22 := Lib.hid (under_use U2_21.out hb)
  have U3_22 := Lib.hid (under_use U3_21.out hb)
  clear M_21 O_21 D_21 U1_21 K1_21 U2_21 U3_21
  clear hb
  clear o0 o1 o2
  clear D_22
  obtain ⟨V23, hV23⟩ : ∃ V, w22.alloc (.cells #[.int .i64 8, .int .i64 0, .int .i64 0, .bool false, .string { data := #[] }, .string { data := #[] }] 40) = V := ⟨_, rfl⟩
  have hb23 : Below w22.heap.size w22 V23 := by rw [← hV23]; exact Nx.al _ _
  have M_23 := Lib.hid (M_22.out.step hb23)
  have O_23 := Lib.hid (O_22.out.under hb23)
  have U1_23 := Lib.hid (under_use U1_22.out hb23)
  have K1_23 := Lib.hid (under_work K1_22.out hb23)
  have U2_23 := Lib.hid (under_use U2_22.out hb23)
  have U3_23 := Lib.hid (under_use U3_22.out hb23)
  clear M_22 O_22 U1_22 K1_22 U2_22 U3_22
  clear hb23
  have D_23 := Lib.hid (code_1 w22 8)
  rw [hV23] at D_23
  obtain ⟨V24, hV24⟩ : ∃ V, V23.alloc (.cells #[.int .i64 0] 3) = V := ⟨_, rfl⟩
  have hb24 : Below V23.heap.size V23 V24 := by rw [← hV24]; exact Nx.al _ _
  have M_24 := Lib.hid (M_23.out.step hb24)
  have O_24 := Lib.hid (O_23.out.under hb24)
  have U1_24 := Lib.hid (under_use U1_23.out hb24)
  have K1_24 := Lib.hid (under_work K1_23.out hb24)
  have U2_24 := Lib.hid (under_use U2_23.out hb24)
  have U3_24 := Lib.hid (under_use U3_23.out hb24)
  have D_24 := Lib.hid (D_23.out.under hb24)
  clear M_23 O_23 U1_23 K1_23 U2_23 U3_23 D_23
  clear hb24
  have I_24 := Lib.hid (ints_1 V23 0)
  rw [hV24] at I_24
  have o0 := O_24.out.cell (i := 0) rfl
  have o1 := O_24.out.cell (i := 1) rfl
  have o2 := O_24.out.cell (i := 2) rfl
  go_wp2_with (fail)
  refine (srun7 _ _ _ D_24.out I_24.out).mono ?_
  rintro e w25 ⟨rfl, hb⟩
  clear hV23 hV24
  have M_25 := Lib.hid (M_24.out.step hb)
  have O_25 := Lib.hid (O_24.out.under hb)
  have U1_25 := Lib.hid (under_use U1_24.out hb)
  have K1_25 := Lib.hid (under_work K1_24.out hb)
  have U2_25 := Lib.hid (under_use U2_24.out hb)
  have U3_25 := Lib.hid (under_use U3_24.out hb)
  have D_25 := Lib.hid (D_24.out.under hb)
  have I_25 := Lib.hid (I_24.out.under hb)
  clear M_24 O_24 U1_24 K1_24 U2_24 U3_24 D_24 I_24
  clear hb
  clear o0 o1 o2
  clear I_25
  clear D_25
  have o0 := O_25.out.cell (i := 0) rfl
  have o1 := O_25.out.cell (i := 1) rfl
  have o2 := O_25.out.cell (i := 2) rfl
  go_wp2_with (fail)
  refine (needs_nil _ _ _ _).mono ?_
  rintro e w26 ⟨rfl, hb⟩
  have M_26 := Lib.hid (M_25.out.step hb)
  have O_26 := Lib.hid (O_25.out.under hb)
  have U1_26 := Lib.hid (under_use U1_25.out hb)
  have K1_26 := Lib.hid (under_work K1_25.out hb)
  have U2_26 := Lib.hid (under_use U2_25.out hb)
  have U3_26 := Lib.hid (under_use U3_25.out hb)
  clear M_25 O_25 U1_25 K1_25 U2_25 U3_25
  clear hb
  clear o0 o1 o2
  clear O_26
  go_wp2_with (fail)
  refine (check_nil _).mono ?_
  rintro e w27 ⟨rfl, hb⟩
  have M_27 := Lib.hid (M_26.out.step hb)
  have U1_27 := Lib.hid (under_use U1_26.out hb)
  have K1_27 := Lib.hid (under_work K1_26.out hb)
  have U2_27 := Lib.hid (under_use U2_26.out hb)
  have U3_27 := Lib.hid (under_use U3_26.out hb)
  clear M_26 U1_26 K1_26 U2_26 U3_26
  clear hb
  go_wp2_with (fail)
  refine (sample_is _).mono ?_
  rintro e w28 ⟨vc5, rfl, hc, hb⟩
  have M_28 := Lib.hid (M_27.out.step hb)
  have U1_28 := Lib.hid (under_use U1_27.out hb)
  have K1_28 := Lib.hid (under_work K1_27.out hb)
  have U2_28 := Lib.hid (under_use U2_27.out hb)
  have U3_28 := Lib.hid (under_use U3_27.out hb)
  clear M_27 U1_27 K1_27 U2_27 U3_27
  clear hb
  have C_28 := Lib.hid hc
  clear hc
  go_wp2_with (fail)
  refine (check_samp _ _ C_28.out).mono ?_
  rintro e w29 ⟨rfl, hb⟩
  have M_29 := Lib.hid (M_28.out.step hb)
  have U1_29 := Lib.hid (under_use U1_28.out hb)
  have K1_29 := Lib.hid (under_work K1_28.out hb)
  have U2_29 := Lib.hid (under_use U2_28.out hb)
  have U3_29 := Lib.hid (under_use U3_28.out hb)
  have C_29 := Lib.hid (C_28.out.under hb)
  clear M_28 U1_28 K1_28 U2_28 U3_28 C_28
  clear hb
  clear C_29
  go_wp2_with (fail)
  refine (lr_15_4 _).mono ?_
  rintro e w30 ⟨rfl, hb⟩
  have M_30 := Lib.hid (M_29.out.step hb)
  have U1_30 := Lib.hid (under_use U1_29.out hb)
  have K1_30 := Lib.hid (under_work K1_29.out hb)
  have U2_30 := Lib.hid (under_use U2_29.out hb)
  have U3_30 := Lib.hid (under_use U3_29.out hb)
  clear M_29 U1_29 K1_29 U2_29 U3_29
  clear hb
  obtain ⟨V31, hV31⟩ : ∃ V, w30.alloc (.cells #[.int .i64 1, .bool false, .string { data := #[15] }, .string { data := #[4] }, .bool false, .bool true] 58) = V := ⟨_, rfl⟩
  have hb31 : Below w30.heap.size w30 V31 := by rw [← hV31]; exact Nx.al _ _
  have M_31 := Lib.hid (M_30.out.step hb31)
  have U1_31 := Lib.hid (under_use U1_30.out hb31)
  have K1_31 := Lib.hid (under_work K1_30.out hb31)
  have U2_31 := Lib.hid (under_use U2_30.out hb31)
  have U3_31 := Lib.hid (under_use U3_30.out hb31)
  clear M_30 U1_30 K1_30 U2_30 U3_30
  clear hb31
  have X_31 : Hid (RowIs UseAt 6 V31 (.slice (some ⟨w30.heap.size, 0, none⟩) 1 1) [ru1]) := by rw [← hV31]; exact use_1 w30 ru1
  go_wp2_with (fail)
  refine (same_u _ _ _ _ U1_31.out X_31.out).mono ?_
  rintro e w32 ⟨rfl, hb⟩
  clear hV31
  have M_32 := Lib.hid (M_31.out.step hb)
  have U1_32 := Lib.hid (under_use U1_31.out hb)
  have K1_32 := Lib.hid (under_work K1_31.out hb)
  have U2_32 := Lib.hid (under_use U2_31.out hb)
  have U3_32 := Lib.hid (under_use U3_31.out hb)
  have X_32 := Lib.hid (under_use X_31.out hb)
  clear M_31 U1_31 K1_31 U2_31 U3_31 X_31
  clear hb
  clear X_32
  clear U1_32
  obtain ⟨V33, hV33⟩ : ∃ V, w32.alloc (.cells #[.int .i64 1, .int .i64 6] 60) = V := ⟨_, rfl⟩
  have hb33 : Below w32.heap.size w32 V33 := by rw [← hV33]; exact Nx.al _ _
  have M_33 := Lib.hid (M_32.out.step hb33)
  have K1_33 := Lib.hid (under_work K1_32.out hb33)
  have U2_33 := Lib.hid (under_use U2_32.out hb33)
  have U3_33 := Lib.hid (under_use U3_32.out hb33)
  clear M_32 K1_32 U2_32 U3_32
  clear hb33
  have X_33 : Hid (RowIs WorkAt 2 V33 (.slice (some ⟨w32.heap.size, 0, none⟩) 1 1) [rw1]) := by rw [← hV33]; exact work_1 w32 rw1
  go_wp2_with (fail)
  refine (same_w _ _ _ _ K1_33.out X_33.out).mono ?_
  rintro e w34 ⟨rfl, hb⟩
  clear hV33
  have M_34 := Lib.hid (M_33.out.step hb)
  have K1_34 := Lib.hid (under_work K1_33.out hb)
  have U2_34 := Lib.hid (under_use U2_33.out hb)
  have U3_34 := Lib.hid (under_use U3_33.out hb)
  have X_34 := Lib.hid (under_work X_33.out hb)
  clear M_33 K1_33 U2_33 U3_33 X_33
  clear hb
  clear X_34
  clear K1_34
  go_wp2_with (fail)
  refine (lr_42_1 _).mono ?_
  rintro e w35 ⟨rfl, hb⟩
  have M_35 := Lib.hid (M_34.out.step hb)
  have U2_35 := Lib.hid (under_use U2_34.out hb)
  have U3_35 := Lib.hid (under_use U3_34.out hb)
  clear M_34 U2_34 U3_34
  clear hb
  obtain ⟨V36, hV36⟩ : ∃ V, w35.alloc (.cells #[.int .i64 3, .bool false, .string { data := #[42] }, .string { data := #[1] }, .bool true, .bool false] 58) = V := ⟨_, rfl⟩
  have hb36 : Below w35.heap.size w35 V36 := by rw [← hV36]; exact Nx.al _ _
  have M_36 := Lib.hid (M_35.out.step hb36)
  have U2_36 := Lib.hid (under_use U2_35.out hb36)
  have U3_36 := Lib.hid (under_use U3_35.out hb36)
  clear M_35 U2_35 U3_35
  clear hb36
  have X_36 : Hid (RowIs UseAt 6 V36 (.slice (some ⟨w35.heap.size, 0, none⟩) 1 1) [ru2]) := by rw [← hV36]; exact use_1 w35 ru2
  go_wp2_with (fail)
  refine (same_u _ _ _ _ U2_36.out X_36.out).mono ?_
  rintro e w37 ⟨rfl, hb⟩
  clear hV36
  have M_37 := Lib.hid (M_36.out.step hb)
  have U2_37 := Lib.hid (under_use U2_36.out hb)
  have U3_37 := Lib.hid (under_use U3_36.out hb)
  have X_37 := Lib.hid (under_use X_36.out hb)
  clear M_36 U2_36 U3_36 X_36
  clear hb
  clear X_37
  go_wp2_with (fail)
  refine (same_u _ _ _ _ U2_37.out U3_37.out).mono ?_
  rintro e w38 ⟨rfl, hb⟩
  have M_38 := Lib.hid (M_37.out.step hb)
  have U2_38 := Lib.hid (under_use U2_37.out hb)
  have U3_38 := Lib.hid (under_use U3_37.out hb)
  clear M_37 U2_37 U3_37
  clear hb
  go_wp2_with (fail)
  go_ret
  exact ⟨rfl, M_38.out⟩
theorem sane_holds : SaneHolds := sane_is
end Go.Proofs.YteggbpaljmopoaaGreat
