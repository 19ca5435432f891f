/- The reference of layer 17: its loop. Conditions: those that each theorem states. -/
import Derived.Test.YteggbpaljmopoaaGreatRefD
set_option linter.unusedVariables false
set_option linter.unusedSimpArgs false
/- backflushref17: Run: its loop. PRINTED BY wip/gen_run17.py -/
namespace Go.Proofs.YteggbpaljmopoaaGreat
open Go.RowKit BF

theorem start_q : newQ 0 1 = 0 := by kernel_rfl
theorem box6 (w : World) (z : Array Value) : ∃ W, w.alloc (.cells z 40) = W ∧ Hid (Blk W w.heap.size 40 z) ∧ Hid (Below w.heap.size w W) :=
  ⟨_, rfl, Blk.new w _ _, (Below.refl _ w).alloc (Nat.le_refl _) _⟩
set_option maxRecDepth 100000 in
set_option maxHeartbeats 8000000 in
theorem s17run_loop (xs : List Ins) (cs : List Int) (an ad : ByteArray) (F n m : Nat) (g1 o1 cap1 cap2 : Nat) (pc : Option Addr) (hn : n ≤ 60) (hm : ¬ (m : Int) < 1) (hF : (F : Int) ≤ 9223372036854775807) (HXL : Hid (xs.length = n)) (w : World)
    (HCA : Hid (CodeAt w g1 o1 xs)) (HFI : Hid (∀ x ∈ xs, x.r.fits)) (HFA : Hid (RV.fits ⟨false, an, ad⟩)) (HLO : Hid (lastOk xs = true)) (HAV : Hid (allV xs = true)) (hne : xs ≠ [])
    (HC : Hid (∀ w1, Below w.heap.size w w1 → Calls Tryz.prog 10 #[.slice (some ⟨g1, o1, none⟩) n cap1] w1 fun e w' => e = .returned (.int .i64 0) ∧ Below w1.heap.size w1 w'))
    (HA2 : Hid (∀ w : World, Calls Tryz.prog 21 #[.agg #[.bool false, .string an, .string ad]] w fun e w' => e = .returned (.int .i64 0) ∧ Below w.heap.size w w'))
    (HH : Hid (∀ w1, Below w.heap.size w w1 → ∀ x : Ins, -2 ≤ x.a → Calls Tryz.prog 23 #[x.v, .slice pc m cap2] w1 fun e w' => e = .returned (.bool (holdsM cs x)) ∧ Below w1.heap.size w1 w')) :
    Calls Tryz.prog 8 #[.slice (some ⟨g1, o1, none⟩) n cap1, .slice pc m cap2, .agg #[.bool false, .string an, .string ad], .int .i64 (F : Int)] w (RunPost w (runM xs cs ⟨false, an, ad⟩ F startM)) := by
  have hpure : ∀ w : World, (pure #[] : Sem (Array Value)).run Tryz.prog w = .ok #[] w := fun _ => rfl
  have hst0 : ∀ (a : Addr) (w : World), (storeCells a []).run Tryz.prog w = .ok () w := fun _ _ => rfl
  obtain ⟨iu, hiu, hu0, hu1, hu2⟩ := info_parts infoUse
  obtain ⟨ik, hik, hk0, hk1, hk2⟩ := info_parts infoWork
  obtain ⟨R, hR⟩ : ∃ R, runM xs cs ⟨false, an, ad⟩ F startM = R := ⟨_, rfl⟩
  have HR := Lib.hid hR
  rw [hR]
  have HST := Lib.hid (start_ok hne)
  obtain ⟨am, ham⟩ : ∃ am : RV, am = ⟨false, an, ad⟩ := ⟨_, rfl⟩
  have HAM := Lib.hid ham
  rw [← ham] at HR HFA
  have HNW : Hid (∀ w : World, Calls Tryz.prog 22 #[.int .i64 0, .int .i64 1] w fun e w' => e = .returned (.tuple #[.agg #[.bool false, .string { data := #[] }, .string { data := #[1] }], .int .i64 0]) ∧ Below w.heap.size w w') := r7New_01
  clear hR ham hne
  have hF0 : ¬ (F : Int) < 0 := by omega
  obtain ⟨W0, hW0, HA, HW⟩ := one_box w #[.bool false, .string an, .string ad]
  go_enter Tryz.func8, Tryz.ntmps8
  go_wp2_with (fail)
  refine (HC.out _ HW.out).mono ?_
  rintro e w1 ⟨rfl, hb⟩
  have HW1 := Lib.hid (HW.out.trans (hb.mono HW.out.size))
  have HA1 := Lib.hid (HA.out.under hb)
  clear hb
  have c0 := HA1.out.cell (i := 0) rfl
  have c1 := HA1.out.cell (i := 1) rfl
  have c2 := HA1.out.cell (i := 2) rfl
  go_wp2_with (fail)
  refine (HA2.out _).mono ?_
  rintro e w2 ⟨rfl, hb⟩
  have HW2 := Lib.hid (HW1.out.trans (hb.mono HW1.out.size))
  have HA3 : Hid (Blk w2 w.heap.size 25 (rvC am)) := by
    have h := HA1.out.under hb
    rw [HAM.out]
    exact h
  clear hb c0 c1 c2
  have d0 : w2.cell? ⟨w.heap.size, 0, none⟩ = some (.bool false) := by
    have h := HA3.out.cell (i := 0) rfl
    rw [HAM.out] at h
    exact h
  obtain ⟨W3, hW3, HS3, HW3⟩ : ∃ W, ((w2.alloc (.cells #[] 58)).alloc (.cells #[] 60)).alloc (.cells #[.bool false, .string { data := #[] }, .string { data := #[] }] 25) = W ∧ Hid (RS W w.heap.size (w2.heap.size + 1 + 1) am RV.zero [] [] (.slice (some ⟨w2.heap.size, 0, none⟩) 0 0) (.slice (some ⟨w2.heap.size + 1, 0, none⟩) 0 0)) ∧ Hid (Below w.heap.size w W) := by
    refine ⟨_, rfl, RS.start (b := RV.zero) HA3.out, ?_⟩
    have h1 := HW2.out.alloc HW2.out.size (.cells #[] 58)
    have h2 := h1.alloc h1.size (.cells #[] 60)
    exact h2.alloc h2.size _
  have z0 := HS3.out.bat.cell (i := 0) rfl
  have z1 := HS3.out.bat.cell (i := 1) rfl
  have z2 := HS3.out.bat.cell (i := 2) rfl
  have fz := HS3.out.bat.frozen
  obtain ⟨W3b, hW3b, HS3b, HW3b⟩ : ∃ W, (((W3.setCell ⟨w2.heap.size + 1 + 1, 0, none⟩ (.bool false)).setCell ⟨w2.heap.size + 1 + 1, 1, none⟩ (.string { data := #[] })).setCell ⟨w2.heap.size + 1 + 1, 2, none⟩ (.string { data := #[] })) = W ∧ Hid (RS W w.heap.size (w2.heap.size + 1 + 1) am RV.zero [] [] (.slice (some ⟨w2.heap.size, 0, none⟩) 0 0) (.slice (some ⟨w2.heap.size + 1, 0, none⟩) 0 0)) ∧ Hid (Below w.heap.size w W) :=
    ⟨_, rfl, HS3.out.put1 RV.zero, ((HW3.out.setCell (p := ⟨w2.heap.size + 1 + 1, 0, none⟩) (Nat.le_of_lt HS3.out.low) _).setCell (p := ⟨w2.heap.size + 1 + 1, 1, none⟩) (Nat.le_of_lt HS3.out.low) _).setCell (p := ⟨w2.heap.size + 1 + 1, 2, none⟩) (Nat.le_of_lt HS3.out.low) _⟩
  go_wp2_with (fail)
  refine (HNW.out _).mono ?_
  rintro e w4 ⟨rfl, hb⟩
  have HS4 := Lib.hid (HS3b.out.under hb)
  have HW4 := Lib.hid (HW3b.out.trans (hb.mono HW3b.out.size))
  clear z0 z1 z2 fz hW3b
  clear hb
  have c0 := HS4.out.bat.cell (i := 0) rfl
  have c1 := HS4.out.bat.cell (i := 1) rfl
  have c2 := HS4.out.bat.cell (i := 2) rfl
  have fb := HS4.out.bat.frozen
  have HS5 := Lib.hid (HS4.out.put1 (ofQ 0))
  have HW5 := Lib.hid (((HW4.out.setCell (p := ⟨w2.heap.size + 1 + 1, 0, none⟩) (Nat.le_of_lt HS4.out.low) (.bool (ofQ 0).neg)).setCell (p := ⟨w2.heap.size + 1 + 1, 1, none⟩) (Nat.le_of_lt HS4.out.low) (.string (ofQ 0).n)).setCell (p := ⟨w2.heap.size + 1 + 1, 2, none⟩) (Nat.le_of_lt HS4.out.low) (.string (ofQ 0).d))
  have HRS : Hid (runM xs cs am F ⟨ofQ 0, [], [], 0, ((0 : Nat) : Int), false⟩ = R ∧ OkM xs ⟨ofQ 0, [], [], 0, ((0 : Nat) : Int), false⟩) := by
    have h1 := HR.out
    have h2 := HST.out
    unfold startM at h1 h2
    rw [start_q] at h1 h2
    exact ⟨h1, h2⟩
  clear HR HST
  go_wp2_with (fail)
  clear hW3
  generalize w2.heap.size + 1 + 1 = bp at *
  go_loopw [3, 13, 14, 15, 16, 18] (fun fu e u k ld at_ wr => ∃ (f : Nat) (sb : RV) (us : List UseV) (ws : List WorkV) (lead : Int) (i : Nat), fu = .int .i64 (f : Int) ∧ e = .int .i64 0 ∧ ld = .int .i64 lead ∧ at_ = .int .i64 (i : Int) ∧ Hid (RS wr w.heap.size bp am sb us ws u k) ∧ Hid (OkM xs ⟨sb, us, ws, lead, (i : Int), false⟩) ∧ Hid (runM xs cs am f ⟨sb, us, ws, lead, (i : Int), false⟩ = R) ∧ f ≤ F ∧ Hid (Below w.heap.size w wr)) (fun fu _ _ _ _ _ _ => (intOf fu).toNat)
  case atStart => exact ⟨F, ofQ 0, [], [], 0, 0, rfl, rfl, rfl, rfl, HS5.out, HRS.out.2, HRS.out.1, Nat.le_refl _, HW5.out⟩
  case round =>
    obtain ⟨f, sb, us, ws, lead, i, rfl, rfl, rfl, rfl, HS, HO, HR, hf, HB⟩ := hrel
    cases f with
    | zero =>
      have HE : Hid (R = .error 170) := HR.out.symm.trans (runM_zero rfl)
      go_wp2
      refine bodyPost_ret (results_tmp5 rfl _ _ _) rfl ?_
      rw [HE.out]
      exact ⟨rfl, HB.out⟩
    | succ f =>
      have e1 : ((f + 1 : Nat) : Int) = (f : Int) + 1 := by omega
      rw [e1]
      clear e1
      have hin : i < n := by have h1 := HO.out.high rfl; have h2 := HXL.out; simp only at h1; omega
      have hil : i < xs.length := by rw [HXL.out]; exact hin
      have hIns := (HCA.out.below HB.out HCA.out.1).2 i hil
      have HNX : Hid (∀ s', stepM cs am xs[i] ⟨sb, us, ws, lead, (i : Int) + 1, false⟩ = .ok s' → runM xs cs am f s' = R ∧ OkM xs s') := fun s' h => next_ok HLO.out HAV.out HO.out rfl hil rfl HR.out h
      have HNE : Hid (∀ e, stepM cs am xs[i] ⟨sb, us, ws, lead, (i : Int) + 1, false⟩ = .error e → R = .error e) := fun e h => next_err (i := i) rfl hil rfl HR.out h
      have hV := allV_get xs HAV.out i hil
      have HFX : Hid (xs[i].r.fits) := HFI.out _ (List.getElem_mem hil)
      have hul : us.length ≤ 60 := by have h1 := HO.out.us; simp only at h1; omega
      have hwl : ws.length ≤ 60 := by have h1 := HO.out.ws; simp only at h1; omega
      generalize xs[i] = x at *
      obtain ⟨op, xa, xb, rb, rn, rd⟩ := x
      obtain ⟨q0, q1, q2, q3, q4, q5⟩ := hIns
      dsimp only at *
      obtain ⟨ho1, ho2⟩ := valid_op hV
      dsimp only at ho1 ho2
      obtain ⟨W1, hW1, HX1, HBX⟩ := box6 wr #[.int .i64 op, .int .i64 xa, .int .i64 xb, .bool rb, .string rn, .string rd]
      have HS1 := Lib.hid (HS.out.under HBX.out)
      have HB1 := Lib.hid (HB.out.trans (HBX.out.mono HB.out.size))
      clear hil
      have x0 := HX1.out.cell (i := 0) rfl
      have x1 := HX1.out.cell (i := 1) rfl
      have x2 := HX1.out.cell (i := 2) rfl
      have x3 := HX1.out.cell (i := 3) rfl
      have x4 := HX1.out.cell (i := 4) rfl
      have x5 := HX1.out.cell (i := 5) rfl
      have b0 := HS1.out.bat.cell (i := 0) rfl
      have a0 := HS1.out.amb.cell (i := 0) rfl
      have b1 := HS1.out.bat.cell (i := 1) rfl
      have a1 := HS1.out.amb.cell (i := 1) rfl
      have b2 := HS1.out.bat.cell (i := 2) rfl
      have a2 := HS1.out.amb.cell (i := 2) rfl
      rcases (show op = 1 ∨ op = 2 ∨ op = 3 ∨ op = 4 ∨ op = 5 ∨ op = 6 ∨ op = 7 ∨ op = 8 by omega) with rfl | rfl | rfl | rfl | rfl | rfl | rfl | rfl
      all_goals clear ho1 ho2
      · obtain ⟨b, hbv⟩ : ∃ b, holdsM cs ⟨1, xa, xb, ⟨rb, rn, rd⟩⟩ = b := ⟨_, rfl⟩
        have ha2 : -2 ≤ xa := by
          simp [validI, inB] at hV
          omega
        have HHX : Hid (Calls Tryz.prog 23 #[.agg #[.int .i64 1, .int .i64 xa, .int .i64 xb, .bool rb, .string rn, .string rd], .slice pc m cap2] W1 fun e w' => e = .returned (.bool b) ∧ Below W1.heap.size W1 w') := by
          have h := HH.out W1 HB1.out ⟨1, xa, xb, ⟨rb, rn, rd⟩⟩ ha2
          rw [hbv] at h
          exact h
        cases b with
        | false =>
          have HN : Hid (runM xs cs am f ⟨sb, us, ws, lead, ((i + 1 : Nat) : Int), false⟩ = R ∧ OkM xs ⟨sb, us, ws, lead, ((i + 1 : Nat) : Int), false⟩) := HNX.out _ (by simp [stepM, hbv])
          clear HNX HNE hV hbv ha2
          go_wp2_with (fail)
          refine HHX.out.mono ?_
          rintro e w5 ⟨rfl, hb⟩
          have HS5 := Lib.hid (HS1.out.under hb)
          have HB5 := Lib.hid (HB1.out.trans (hb.mono HB1.out.size))
          clear hb
          go_wp2_with (fail)
          exact ⟨⟨f, sb, us, ws, lead, i + 1, rfl, rfl, rfl, by go_num, HS5.out, HN.out.2, HN.out.1, by omega, HB5.out⟩, by simp [intOf]; try omega⟩
        | true =>
          have HN : Hid (runM xs cs am f ⟨sb, us, ws, lead, ((i + 2 : Nat) : Int), false⟩ = R ∧ OkM xs ⟨sb, us, ws, lead, ((i + 2 : Nat) : Int), false⟩) := HNX.out _ (by simp [stepM, hbv]; omega)
          clear HNX HNE hV hbv ha2
          go_wp2_with (fail)
          refine HHX.out.mono ?_
          rintro e w5 ⟨rfl, hb⟩
          have HS5 := Lib.hid (HS1.out.under hb)
          have HB5 := Lib.hid (HB1.out.trans (hb.mono HB1.out.size))
          clear hb
          go_wp2_with (fail)
          exact ⟨⟨f, sb, us, ws, lead, i + 2, rfl, rfl, rfl, by go_num, HS5.out, HN.out.2, HN.out.1, by omega, HB5.out⟩, by simp [intOf]; try omega⟩
      · have hj0 : 0 ≤ xa ∧ xa < ((xs.length - 1 - i : Nat) : Int) := by
          simp [validI] at hV
          exact hV
        obtain ⟨j, rfl⟩ := Int.eq_ofNat_of_zero_le hj0.1
        have hjn : j ≤ 60 := by have := hj0.2; have := HXL.out; omega
        have HN : Hid (runM xs cs am f ⟨sb, us, ws, lead, ((i + 1 + j : Nat) : Int), false⟩ = R ∧ OkM xs ⟨sb, us, ws, lead, ((i + 1 + j : Nat) : Int), false⟩) := HNX.out _ (by simp [stepM])
        clear HNX HNE hV hj0
        go_wp2_with (fail)
        exact ⟨⟨f, sb, us, ws, lead, i + 1 + j, rfl, rfl, rfl, by go_num, HS1.out, HN.out.2, HN.out.1, by omega, HB1.out⟩, by simp [intOf]; try omega⟩
      · obtain ⟨⟨⟨qb, qn, qd⟩, E⟩, hD⟩ : ∃ D, divR am ⟨rb, rn, rd⟩ = D := ⟨_, rfl⟩
        have HD : Hid (∀ w : World, Calls Tryz.prog 24 #[.agg #[.bool am.neg, .string am.n, .string am.d], .agg #[.bool rb, .string rn, .string rd]] w fun e w' => e = .returned (.tuple #[.agg #[.bool qb, .string qn, .string qd], .int .i64 E]) ∧ Below w.heap.size w w') := fun w => by
          have h := r7Div_any am ⟨rb, rn, rd⟩ HFA.out HFX.out w
          rw [hD] at h
          exact h
        by_cases hE : E = 0
        · subst hE
          have HN : Hid (runM xs cs am f ⟨⟨qb, qn, qd⟩, us, ws, xb, ((i + 1 : Nat) : Int), false⟩ = R ∧ OkM xs ⟨⟨qb, qn, qd⟩, us, ws, xb, ((i + 1 : Nat) : Int), false⟩) := HNX.out _ (by simp [stepM, hD])
          clear HNX HNE hV hD
          go_wp2_with (fail)
          refine (HD.out _).mono ?_
          rintro e w5 ⟨rfl, hb⟩
          have HS5 := Lib.hid (HS1.out.under hb)
          have HB5 := Lib.hid (HB1.out.trans (hb.mono HB1.out.size))
          have HX5 := Lib.hid (HX1.out.under hb)
          clear hb x0 x1 x2 x3 x4 x5 b0 b1 b2 a0 a1 a2
          have x0 := HX5.out.cell (i := 0) rfl
          have x1 := HX5.out.cell (i := 1) rfl
          have x2 := HX5.out.cell (i := 2) rfl
          have x3 := HX5.out.cell (i := 3) rfl
          have x4 := HX5.out.cell (i := 4) rfl
          have x5 := HX5.out.cell (i := 5) rfl
          have b0 := HS5.out.bat.cell (i := 0) rfl
          have a0 := HS5.out.amb.cell (i := 0) rfl
          have b1 := HS5.out.bat.cell (i := 1) rfl
          have a1 := HS5.out.amb.cell (i := 1) rfl
          have b2 := HS5.out.bat.cell (i := 2) rfl
          have a2 := HS5.out.amb.cell (i := 2) rfl
          have fb := HS5.out.bat.frozen
          have HS6 := Lib.hid (HS5.out.put1 ⟨qb, qn, qd⟩)
          have HB6 := Lib.hid (((HB5.out.setCell (p := ⟨bp, 0, none⟩) (Nat.le_of_lt HS5.out.low) (.bool qb)).setCell (p := ⟨bp, 1, none⟩) (Nat.le_of_lt HS5.out.low) (.string qn)).setCell (p := ⟨bp, 2, none⟩) (Nat.le_of_lt HS5.out.low) (.string qd))
          have hne5 : wr.heap.size ≠ bp := by have := HS.out.bat.lt; omega
          have HX6 := Lib.hid (((HX5.out.other (i := 0) (.bool qb) hne5).other (i := 1) (.string qn) hne5).other (i := 2) (.string qd) hne5)
          have y2 := HX6.out.cell (i := 2) rfl
          go_wp2_with (fail)
          exact ⟨⟨f, ⟨qb, qn, qd⟩, us, ws, xb, i + 1, rfl, rfl, rfl, by go_num, HS6.out, HN.out.2, HN.out.1, by omega, HB6.out⟩, by simp [intOf]; try omega⟩
        · have hE0 : (E != 0) = true := by simpa using hE
          have HE : Hid (R = .error E) := HNE.out _ (by simp [stepM, hD, hE])
          clear HNX HNE hV hD hE
          go_wp2_with (fail)
          refine (HD.out _).mono ?_
          rintro e w5 ⟨rfl, hb⟩
          have HS5 := Lib.hid (HS1.out.under hb)
          have HB5 := Lib.hid (HB1.out.trans (hb.mono HB1.out.size))
          have HX5 := Lib.hid (HX1.out.under hb)
          clear hb x0 x1 x2 x3 x4 x5 b0 b1 b2 a0 a1 a2
          have x0 := HX5.out.cell (i := 0) rfl
          have x1 := HX5.out.cell (i := 1) rfl
          have x2 := HX5.out.cell (i := 2) rfl
          have x3 := HX5.out.cell (i := 3) rfl
          have x4 := HX5.out.cell (i := 4) rfl
          have x5 := HX5.out.cell (i := 5) rfl
          have b0 := HS5.out.bat.cell (i := 0) rfl
          have a0 := HS5.out.amb.cell (i := 0) rfl
          have b1 := HS5.out.bat.cell (i := 1) rfl
          have a1 := HS5.out.amb.cell (i := 1) rfl
          have b2 := HS5.out.bat.cell (i := 2) rfl
          have a2 := HS5.out.amb.cell (i := 2) rfl
          have fb := HS5.out.bat.frozen
          have HB6 := Lib.hid (((HB5.out.setCell (p := ⟨bp, 0, none⟩) (Nat.le_of_lt HS5.out.low) (.bool qb)).setCell (p := ⟨bp, 1, none⟩) (Nat.le_of_lt HS5.out.low) (.string qn)).setCell (p := ⟨bp, 2, none⟩) (Nat.le_of_lt HS5.out.low) (.string qd))
          have hne5 : wr.heap.size ≠ bp := by have := HS.out.bat.lt; omega
          have HX6 := Lib.hid (((HX5.out.other (i := 0) (.bool qb) hne5).other (i := 1) (.string qn) hne5).other (i := 2) (.string qd) hne5)
          have y2 := HX6.out.cell (i := 2) rfl
          go_wp2
          refine bodyPost_ret (results_tmp5 rfl _ _ _) rfl ?_
          rw [HE.out]
          exact ⟨rfl, HB6.out⟩
      · obtain ⟨⟨⟨qb, qn, qd⟩, E⟩, hD⟩ : ∃ D, mulR ⟨rb, rn, rd⟩ sb = D := ⟨_, rfl⟩
        have HD : Hid (∀ w : World, Calls Tryz.prog 25 #[.agg #[.bool rb, .string rn, .string rd], .agg #[.bool sb.neg, .string sb.n, .string sb.d]] w fun e w' => e = .returned (.tuple #[.agg #[.bool qb, .string qn, .string qd], .int .i64 E]) ∧ Below w.heap.size w w') := fun w => by
          have h := r7Mul_any ⟨rb, rn, rd⟩ sb HFX.out HO.out.fits w
          rw [hD] at h
          exact h
        by_cases hE : E = 0
        · subst hE
          have HN : Hid (runM xs cs am f ⟨sb, us ++ [⟨xa, ⟨qb, qn, qd⟩, false, xb == 1⟩], ws, lead, ((i + 1 : Nat) : Int), false⟩ = R ∧ OkM xs ⟨sb, us ++ [⟨xa, ⟨qb, qn, qd⟩, false, xb == 1⟩], ws, lead, ((i + 1 : Nat) : Int), false⟩) := HNX.out _ (by simp [stepM, hD])
          clear HNX HNE hV hD
          go_wp2_with (fail)
          refine (HD.out _).mono ?_
          rintro e w5 ⟨rfl, hb⟩
          have HS5 := Lib.hid (HS1.out.under hb)
          have HB5 := Lib.hid (HB1.out.trans (hb.mono HB1.out.size))
          have HX5 := Lib.hid (HX1.out.under hb)
          clear hb x0 x1 x2 x3 x4 x5 b0 b1 b2 a0 a1 a2
          have x0 := HX5.out.cell (i := 0) rfl
          have x1 := HX5.out.cell (i := 1) rfl
          have x2 := HX5.out.cell (i := 2) rfl
          have x3 := HX5.out.cell (i := 3) rfl
          have x4 := HX5.out.cell (i := 4) rfl
          have x5 := HX5.out.cell (i := 5) rfl
          have b0 := HS5.out.bat.cell (i := 0) rfl
          have a0 := HS5.out.amb.cell (i := 0) rfl
          have b1 := HS5.out.bat.cell (i := 1) rfl
          have a1 := HS5.out.amb.cell (i := 1) rfl
          have b2 := HS5.out.bat.cell (i := 2) rfl
          have a2 := HS5.out.amb.cell (i := 2) rfl
          obtain ⟨W6, hW6, HR6, HBR⟩ := one_box w5 #[.bool qb, .string qn, .string qd]
          have HS6 := Lib.hid (HS5.out.under HBR.out)
          have HB6 := Lib.hid (HB5.out.trans (HBR.out.mono HB5.out.size))
          have HX6 := Lib.hid (HX5.out.under HBR.out)
          have y0 := HX6.out.cell (i := 0) rfl
          have y1 := HX6.out.cell (i := 1) rfl
          have y2 := HX6.out.cell (i := 2) rfl
          have r0 := HR6.out.cell (i := 0) rfl
          have r1 := HR6.out.cell (i := 1) rfl
          have r2 := HR6.out.cell (i := 2) rfl
          go_wp2_with (at_builtin; refine wpList_append_own_at _ rfl _ _ 29 rfl w.heap.size 58 iu _ 6 56 Tryz.underlying29 hiu hu0 hu1 hu2 rfl (by decide) _ us.length _ rfl (HS6.out.alloc _).uses ⟨W6.heap.size, 0, none⟩ 1 1 [.int .i64 xa, .bool qb, .string qn, .string qd, .bool false, .bool (xb == 1)] rfl rfl (World.news_of_block (Blk.new W6 _ _)) (by simp [Value.oneCell']) (by unfold maxLen; omega) (by omega) (by have := HB6.out.size; simp; omega) ?_; intro v' w7 hown' hgrow _ hat)
          have HS7 := Lib.hid ((HS6.out.alloc _).addU ⟨xa, ⟨qb, qn, qd⟩, false, xb == 1⟩ hown' hgrow hat)
          have HB7 : Hid (Below w.heap.size w w7) := (HB6.out.alloc HB6.out.size _).grown hgrow (by have := HB6.out.size; simp; omega) (rowsU HS6.out)
          clear hown' hgrow hat
          go_wp2_with (fail)
          exact ⟨⟨f, sb, _, ws, lead, i + 1, rfl, rfl, rfl, by go_num, HS7.out, HN.out.2, HN.out.1, by omega, HB7.out⟩, by simp [intOf]; try omega⟩
        · have hE0 : (E != 0) = true := by simpa using hE
          have HE : Hid (R = .error E) := HNE.out _ (by simp [stepM, hD, hE])
          clear HNX HNE hV hD hE
          go_wp2_with (fail)
          refine (HD.out _).mono ?_
          rintro e w5 ⟨rfl, hb⟩
          have HS5 := Lib.hid (HS1.out.under hb)
          have HB5 := Lib.hid (HB1.out.trans (hb.mono HB1.out.size))
          have HX5 := Lib.hid (HX1.out.under hb)
          clear hb x0 x1 x2 x3 x4 x5 b0 b1 b2 a0 a1 a2
          have x0 := HX5.out.cell (i := 0) rfl
          have x1 := HX5.out.cell (i := 1) rfl
          have x2 := HX5.out.cell (i := 2) rfl
          have x3 := HX5.out.cell (i := 3) rfl
          have x4 := HX5.out.cell (i := 4) rfl
          have x5 := HX5.out.cell (i := 5) rfl
          have b0 := HS5.out.bat.cell (i := 0) rfl
          have a0 := HS5.out.amb.cell (i := 0) rfl
          have b1 := HS5.out.bat.cell (i := 1) rfl
          have a1 := HS5.out.amb.cell (i := 1) rfl
          have b2 := HS5.out.bat.cell (i := 2) rfl
          have a2 := HS5.out.amb.cell (i := 2) rfl
          obtain ⟨W6, hW6, HR6, HBR⟩ := one_box w5 #[.bool qb, .string qn, .string qd]
          have HS6 := Lib.hid (HS5.out.under HBR.out)
          have HB6 := Lib.hid (HB5.out.trans (HBR.out.mono HB5.out.size))
          have HX6 := Lib.hid (HX5.out.under HBR.out)
          have y0 := HX6.out.cell (i := 0) rfl
          have y1 := HX6.out.cell (i := 1) rfl
          have y2 := HX6.out.cell (i := 2) rfl
          have r0 := HR6.out.cell (i := 0) rfl
          have r1 := HR6.out.cell (i := 1) rfl
          have r2 := HR6.out.cell (i := 2) rfl
          go_wp2_with (at_builtin; refine wpList_append_own_at _ rfl _ _ 29 rfl w.heap.size 58 iu _ 6 56 Tryz.underlying29 hiu hu0 hu1 hu2 rfl (by decide) _ us.length _ rfl (HS6.out.alloc _).uses ⟨W6.heap.size, 0, none⟩ 1 1 [.int .i64 xa, .bool qb, .string qn, .string qd, .bool false, .bool (xb == 1)] rfl rfl (World.news_of_block (Blk.new W6 _ _)) (by simp [Value.oneCell']) (by unfold maxLen; omega) (by omega) (by have := HB6.out.size; simp; omega) ?_; intro v' w7 hown' hgrow _ hat)
          have HS7 := Lib.hid ((HS6.out.alloc _).addU ⟨xa, ⟨qb, qn, qd⟩, false, xb == 1⟩ hown' hgrow hat)
          have HB7 : Hid (Below w.heap.size w w7) := (HB6.out.alloc HB6.out.size _).grown hgrow (by have := HB6.out.size; simp; omega) (rowsU HS6.out)
          clear hown' hgrow hat
          go_wp2
          refine bodyPost_ret (results_tmp5 rfl _ _ _) rfl ?_
          rw [HE.out]
          exact ⟨rfl, HB7.out⟩
      · obtain ⟨⟨⟨qb, qn, qd⟩, E⟩, hD⟩ : ∃ D, mulR ⟨rb, rn, rd⟩ sb = D := ⟨_, rfl⟩
        have HD : Hid (∀ w : World, Calls Tryz.prog 25 #[.agg #[.bool rb, .string rn, .string rd], .agg #[.bool sb.neg, .string sb.n, .string sb.d]] w fun e w' => e = .returned (.tuple #[.agg #[.bool qb, .string qn, .string qd], .int .i64 E]) ∧ Below w.heap.size w w') := fun w => by
          have h := r7Mul_any ⟨rb, rn, rd⟩ sb HFX.out HO.out.fits w
          rw [hD] at h
          exact h
        by_cases hE : E = 0
        · subst hE
          have HN : Hid (runM xs cs am f ⟨sb, us ++ [⟨xa, ⟨qb, qn, qd⟩, true, xb == 1⟩], ws, lead, ((i + 1 : Nat) : Int), false⟩ = R ∧ OkM xs ⟨sb, us ++ [⟨xa, ⟨qb, qn, qd⟩, true, xb == 1⟩], ws, lead, ((i + 1 : Nat) : Int), false⟩) := HNX.out _ (by simp [stepM, hD])
          clear HNX HNE hV hD
          go_wp2_with (fail)
          refine (HD.out _).mono ?_
          rintro e w5 ⟨rfl, hb⟩
          have HS5 := Lib.hid (HS1.out.under hb)
          have HB5 := Lib.hid (HB1.out.trans (hb.mono HB1.out.size))
          have HX5 := Lib.hid (HX1.out.under hb)
          clear hb x0 x1 x2 x3 x4 x5 b0 b1 b2 a0 a1 a2
          have x0 := HX5.out.cell (i := 0) rfl
          have x1 := HX5.out.cell (i := 1) rfl
          have x2 := HX5.out.cell (i := 2) rfl
          have x3 := HX5.out.cell (i := 3) rfl
          have x4 := HX5.out.cell (i := 4) rfl
          have x5 := HX5.out.cell (i := 5) rfl
          have b0 := HS5.out.bat.cell (i := 0) rfl
          have a0 := HS5.out.amb.cell (i := 0) rfl
          have b1 := HS5.out.bat.cell (i := 1) rfl
          have a1 := HS5.out.amb.cell (i := 1) rfl
          have b2 := HS5.out.bat.cell (i := 2) rfl
          have a2 := HS5.out.amb.cell (i := 2) rfl
          obtain ⟨W6, hW6, HR6, HBR⟩ := one_box w5 #[.bool qb, .string qn, .string qd]
          have HS6 := Lib.hid (HS5.out.under HBR.out)
          have HB6 := Lib.hid (HB5.out.trans (HBR.out.mono HB5.out.size))
          have HX6 := Lib.hid (HX5.out.under HBR.out)
          have y0 := HX6.out.cell (i := 0) rfl
          have y1 := HX6.out.cell (i := 1) rfl
          have y2 := HX6.out.cell (i := 2) rfl
          have r0 := HR6.out.cell (i := 0) rfl
          have r1 := HR6.out.cell (i := 1) rfl
          have r2 := HR6.out.cell (i := 2) rfl
          go_wp2_with (at_builtin; refine wpList_append_own_at _ rfl _ _ 29 rfl w.heap.size 58 iu _ 6 56 Tryz.underlying29 hiu hu0 hu1 hu2 rfl (by decide) _ us.length _ rfl (HS6.out.alloc _).uses ⟨W6.heap.size, 0, none⟩ 1 1 [.int .i64 xa, .bool qb, .string qn, .string qd, .bool true, .bool (xb == 1)] rfl rfl (World.news_of_block (Blk.new W6 _ _)) (by simp [Value.oneCell']) (by unfold maxLen; omega) (by omega) (by have := HB6.out.size; simp; omega) ?_; intro v' w7 hown' hgrow _ hat)
          have HS7 := Lib.hid ((HS6.out.alloc _).addU ⟨xa, ⟨qb, qn, qd⟩, true, xb == 1⟩ hown' hgrow hat)
          have HB7 : Hid (Below w.heap.size w w7) := (HB6.out.alloc HB6.out.size _).grown hgrow (by have := HB6.out.size; simp; omega) (rowsU HS6.out)
          clear hown' hgrow hat
          go_wp2_with (fail)
          exact ⟨⟨f, sb, _, ws, lead, i + 1, rfl, rfl, rfl, by go_num, HS7.out, HN.out.2, HN.out.1, by omega, HB7.out⟩, by simp [intOf]; try omega⟩
        · have hE0 : (E != 0) = true := by simpa using hE
          have HE : Hid (R = .error E) := HNE.out _ (by simp [stepM, hD, hE])
          clear HNX HNE hV hD hE
          go_wp2_with (fail)
          refine (HD.out _).mono ?_
          rintro e w5 ⟨rfl, hb⟩
          have HS5 := Lib.hid (HS1.out.under hb)
          have HB5 := Lib.hid (HB1.out.trans (hb.mono HB1.out.size))
          have HX5 := Lib.hid (HX1.out.under hb)
          clear hb x0 x1 x2 x3 x4 x5 b0 b1 b2 a0 a1 a2
          have x0 := HX5.out.cell (i := 0) rfl
          have x1 := HX5.out.cell (i := 1) rfl
          have x2 := HX5.out.cell (i := 2) rfl
          have x3 := HX5.out.cell (i := 3) rfl
          have x4 := HX5.out.cell (i := 4) rfl
          have x5 := HX5.out.cell (i := 5) rfl
          have b0 := HS5.out.bat.cell (i := 0) rfl
          have a0 := HS5.out.amb.cell (i := 0) rfl
          have b1 := HS5.out.bat.cell (i := 1) rfl
          have a1 := HS5.out.amb.cell (i := 1) rfl
          have b2 := HS5.out.bat.cell (i := 2) rfl
          have a2 := HS5.out.amb.cell (i := 2) rfl
          obtain ⟨W6, hW6, HR6, HBR⟩ := one_box w5 #[.bool qb, .string qn, .string qd]
          have HS6 := Lib.hid (HS5.out.under HBR.out)
          have HB6 := Lib.hid (HB5.out.trans (HBR.out.mono HB5.out.size))
          have HX6 := Lib.hid (HX5.out.under HBR.out)
          have y0 := HX6.out.cell (i := 0) rfl
          have y1 := HX6.out.cell (i := 1) rfl
          have y2 := HX6.out.cell (i := 2) rfl
          have r0 := HR6.out.cell (i := 0) rfl
          have r1 := HR6.out.cell (i := 1) rfl
          have r2 := HR6.out.cell (i := 2) rfl
          go_wp2_with (at_builtin; refine wpList_append_own_at _ rfl _ _ 29 rfl w.heap.size 58 iu _ 6 56 Tryz.underlying29 hiu hu0 hu1 hu2 rfl (by decide) _ us.length _ rfl (HS6.out.alloc _).uses ⟨W6.heap.size, 0, none⟩ 1 1 [.int .i64 xa, .bool qb, .string qn, .string qd, .bool true, .bool (xb == 1)] rfl rfl (World.news_of_block (Blk.new W6 _ _)) (by simp [Value.oneCell']) (by unfold maxLen; omega) (by omega) (by have := HB6.out.size; simp; omega) ?_; intro v' w7 hown' hgrow _ hat)
          have HS7 := Lib.hid ((HS6.out.alloc _).addU ⟨xa, ⟨qb, qn, qd⟩, true, xb == 1⟩ hown' hgrow hat)
          have HB7 : Hid (Below w.heap.size w w7) := (HB6.out.alloc HB6.out.size _).grown hgrow (by have := HB6.out.size; simp; omega) (rowsU HS6.out)
          clear hown' hgrow hat
          go_wp2
          refine bodyPost_ret (results_tmp5 rfl _ _ _) rfl ?_
          rw [HE.out]
          exact ⟨rfl, HB7.out⟩
      · obtain ⟨⟨nv, E⟩, hD⟩ : ∃ D, ceilR sb = D := ⟨_, rfl⟩
        have HD : Hid (∀ w : World, Calls Tryz.prog 26 #[.agg #[.bool sb.neg, .string sb.n, .string sb.d]] w fun e w' => e = .returned (.tuple #[.int .i64 nv, .int .i64 E]) ∧ Below w.heap.size w w') := fun w => by
          have h := r7Ceil_any sb HO.out.fits w
          rw [hD] at h
          exact h
        by_cases hE : E = 0
        · subst hE
          by_cases hnv : 1099511627776 < nv
          · have HE : Hid (R = .error 2) := HNE.out _ (by simp [stepM, hD, hnv])
            clear HNX HNE hV hD
            go_wp2_with (fail)
            refine (HD.out _).mono ?_
            rintro e w5 ⟨rfl, hb⟩
            have HS5 := Lib.hid (HS1.out.under hb)
            have HB5 := Lib.hid (HB1.out.trans (hb.mono HB1.out.size))
            have HX5 := Lib.hid (HX1.out.under hb)
            clear hb x0 x1 x2 x3 x4 x5 b0 b1 b2 a0 a1 a2
            have x0 := HX5.out.cell (i := 0) rfl
            have x1 := HX5.out.cell (i := 1) rfl
            have x2 := HX5.out.cell (i := 2) rfl
            have x3 := HX5.out.cell (i := 3) rfl
            have x4 := HX5.out.cell (i := 4) rfl
            have x5 := HX5.out.cell (i := 5) rfl
            go_wp2
            refine bodyPost_ret (results_tmp5 rfl _ _ _) rfl ?_
            rw [HE.out]
            exact ⟨rfl, HB5.out⟩
          · obtain ⟨z, hz⟩ : ∃ z, IntKind.i64.wrap (xb * nv) = z := ⟨_, rfl⟩
            have HN : Hid (runM xs cs am f ⟨sb, us, ws ++ [⟨xa, z⟩], lead, ((i + 1 : Nat) : Int), false⟩ = R ∧ OkM xs ⟨sb, us, ws ++ [⟨xa, z⟩], lead, ((i + 1 : Nat) : Int), false⟩) := HNX.out _ (by simp [stepM, hD, hnv, hz])
            have hz2 : wrap64 (xb * nv) = z := by rw [← Go.IntWalk.i64_left]; exact hz
            clear HNX HNE hV hD
            go_wp2_with (fail)
            refine (HD.out _).mono ?_
            rintro e w5 ⟨rfl, hb⟩
            have HS5 := Lib.hid (HS1.out.under hb)
            have HB5 := Lib.hid (HB1.out.trans (hb.mono HB1.out.size))
            have HX5 := Lib.hid (HX1.out.under hb)
            clear hb x0 x1 x2 x3 x4 x5 b0 b1 b2 a0 a1 a2
            have x0 := HX5.out.cell (i := 0) rfl
            have x1 := HX5.out.cell (i := 1) rfl
            have x2 := HX5.out.cell (i := 2) rfl
            have x3 := HX5.out.cell (i := 3) rfl
            have x4 := HX5.out.cell (i := 4) rfl
            have x5 := HX5.out.cell (i := 5) rfl
            go_wp2_with (at_builtin; refine wpList_append_own_at _ rfl _ _ 30 rfl w.heap.size 60 ik _ 2 16 Tryz.underlying30 hik hk0 hk1 hk2 rfl (by decide) _ ws.length _ rfl (HS5.out.alloc _).work ⟨w5.heap.size, 0, none⟩ 1 1 [.int .i64 xa, .int .i64 z] rfl rfl (World.news_of_block (Blk.new w5 _ _)) (by simp [Value.oneCell']) (by unfold maxLen; omega) (by omega) (by have := HB5.out.size; simp; omega) ?_; intro v' w7 hown' hgrow _ hat)
            have HS7 := Lib.hid ((HS5.out.alloc _).addW ⟨xa, z⟩ hown' hgrow hat)
            have HB7 : Hid (Below w.heap.size w w7) := (HB5.out.alloc HB5.out.size _).grown hgrow (by have := HB5.out.size; simp; omega) (rowsK HS5.out)
            clear hown' hgrow hat
            go_wp2_with (fail)
            exact ⟨⟨f, sb, us, _, lead, i + 1, rfl, rfl, rfl, by go_num, HS7.out, HN.out.2, HN.out.1, by omega, HB7.out⟩, by simp [intOf]; try omega⟩
        · have hE0 : (E != 0) = true := by simpa using hE
          have hE1 : (E == 0) = false := by simpa using hE
          have HE : Hid (R = .error E) := HNE.out _ (by simp [stepM, hD, hE])
          clear HNX HNE hV hD hE
          go_wp2_with (fail)
          refine (HD.out _).mono ?_
          rintro e w5 ⟨rfl, hb⟩
          have HS5 := Lib.hid (HS1.out.under hb)
          have HB5 := Lib.hid (HB1.out.trans (hb.mono HB1.out.size))
          have HX5 := Lib.hid (HX1.out.under hb)
          clear hb x0 x1 x2 x3 x4 x5 b0 b1 b2 a0 a1 a2
          have x0 := HX5.out.cell (i := 0) rfl
          have x1 := HX5.out.cell (i := 1) rfl
          have x2 := HX5.out.cell (i := 2) rfl
          have x3 := HX5.out.cell (i := 3) rfl
          have x4 := HX5.out.cell (i := 4) rfl
          have x5 := HX5.out.cell (i := 5) rfl
          go_wp2
          refine bodyPost_ret (results_tmp5 rfl _ _ _) rfl ?_
          rw [HE.out]
          exact ⟨rfl, HB5.out⟩
      · have HK : Hid (R = .ok (⟨sb, us, ws, lead, (i : Int) + 1, true⟩, f)) := by
          have h := (HNX.out ⟨sb, us, ws, lead, (i : Int) + 1, true⟩ (by simp [stepM])).1
          rw [runM_done f rfl] at h
          exact h.symm
        clear HNX HNE hV
        go_wp2
        refine bodyPost_ret (results_tmp5 rfl _ _ _) rfl ?_
        rw [HK.out]
        exact ⟨HB1.out, _, _, rfl, HS1.out.uses, HS1.out.work⟩
      · have HE : Hid (R = .error 160) := HNE.out _ (by simp [stepM])
        clear HNX HNE hV
        go_wp2
        refine bodyPost_ret (results_tmp5 rfl _ _ _) rfl ?_
        rw [HE.out]
        exact ⟨rfl, HB1.out⟩
end Go.Proofs.YteggbpaljmopoaaGreat
