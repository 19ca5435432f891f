/- The law MachineDay: its walk. Conditions: those that each theorem states. -/
import Derived.Test.YtekjphkabfiheaaGreatFuelW
import Derived.Test.YtekjphkabfiheaaGreatWords
set_option linter.unusedVariables false
set_option linter.unusedSimpArgs false
/- MachineDay: the walk. -/
namespace Go.Proofs.YtekjphkabfiheaaGreat
open Go.RowKit BF
def RunRes (w : World) (us : List UseV) (ws : List WorkV) (lead left E : Int) (e : Ending) (w' : World) : Prop :=
  ∃ u k, e = .returned (.tuple #[u, k, .int .i64 lead, .int .i64 left, .int .i64 E]) ∧ RowIs UseAt 6 w' u us ∧ RowIs WorkAt 2 w' k ws ∧ Below w.heap.size w w'
def dayBad (m : Nat) (day other : Int) (x : Ins) : Bool := decide (x.op = 1) && (decide (x.a < 0) && (decide (x.b ≤ day) != decide (x.b ≤ other)) || decide ((m : Int) ≤ x.a))
theorem day_next {xs : List Ins} {k m : Nat} {day other : Int} (hk : k < xs.length) (h : ∀ x ∈ xs.take k, dayBad m day other x = false) (hx : dayBad m day other xs[k] = false) : ∀ x ∈ xs.take (k + 1), dayBad m day other x = false := by
  rw [List.take_succ_eq_append_getElem hk]
  intro x hm
  rcases List.mem_append.1 hm with hm | hm
  · exact h x hm
  · simp at hm; subst hm; exact hx
theorem int_info : (Tryz.prog.info? 3).map (fun i => (i.zero, i.size, i.bytes)) = some (some (.int .i64 0), 1, 8) := by kernel_rfl
def I64 (n : Int) : Value := .int .i64 n
theorem I64_one (cs : List Int) : ∀ u ∈ cs.map I64, u.oneCell' = true := by
  intro u hu
  obtain ⟨n, _, rfl⟩ := List.mem_map.1 hu
  rfl
theorem addr_add (g o k : Nat) : (⟨g, o, none⟩ : Addr).add k = ⟨g, o + k, none⟩ := by
  unfold Addr.add
  split
  · rename_i h; subst h; rfl
  · rfl
theorem IntsIs.reads {w : World} {p : Option Addr} {m cap : Nat} {cs : List Int} (h : IntsIs w (.slice p m cap) cs) (hm : cs.length = m) : Reads w w.heap.size 1 p m (cs.map I64) := by
  rcases h with ⟨q, c, e, rfl⟩ | ⟨g, o, c, e, h1, h2, h3⟩
  · subst hm; exact Reads.none_
  · cases e
    refine ⟨by simp, fun _ => ⟨_, rfl, h2, fun j u hu => ?_⟩⟩
    rw [addr_add]
    obtain ⟨hj, hu⟩ := List.getElem?_eq_some_iff.1 hu
    simp at hj hu
    rw [h3 j hj, ← hu]; rfl
theorem own_empty (W : World) (base : Nat) (E : TypeId) (h : base ≤ W.heap.size) : (W.alloc (.cells #[] E)).ownsRow base E 1 (.slice (some ⟨W.heap.size, 0, none⟩) 0 0) 0 [] :=
  ⟨rfl, .inr ⟨W.heap.size, 0, #[], rfl, h, heap_new W _, Nat.le_refl _, by decide, rfl, rfl⟩⟩
theorem reads_one (W : World) (n : Int) (E : TypeId) : Reads (W.alloc (.cells #[.int .i64 n] E)) (W.heap.size + 1) 1 (some ⟨W.heap.size, 0, none⟩) 1 [I64 n] :=
  ⟨rfl, fun _ => ⟨_, rfl, Nat.lt_succ_self _, fun j u hu => by
    match j, hu with
    | 0, hu => simp at hu; subst hu; simp [Addr.add, I64]⟩⟩
theorem ints_of_own {w : World} {base n : Nat} {v : Value} {xs : List Value} (h : w.ownsRow base 3 1 v n xs) (l : List Int) (hl : xs = l.map I64) : IntsIs w v l := by
  subst hl
  have h0 := h
  obtain ⟨hn, h | ⟨g, cap, cur, rfl, h1, h2, h3, h4, h5, h6⟩⟩ := h
  · obtain ⟨rfl, rfl⟩ := h
    have : l = [] := List.length_eq_zero_iff.1 (by simpa using hn)
    exact .inl ⟨_, _, rfl, this⟩
  · simp at hn
    by_cases hl : l = []
    · subst hl
      simp at hn
      subst hn
      exact .inl ⟨_, _, rfl, rfl⟩
    · refine .inr ⟨g, 0, cap, by rw [hn], hl, (Array.getElem?_eq_some_iff.1 h2).1, fun j hj => ?_⟩
      rw [Nat.zero_add, h0.cellAt j (by omega)]
      simp [hj, I64]
set_option maxRecDepth 100000 in
set_option maxHeartbeats 2000000 in
theorem day_a (n m : Nat) (hn : n ≤ 60) (hm : m ≤ 6) (cs : List Int) (HM : Hid (cs.length = m)) (q p : Option Addr) (capq cap : Nat) (n0 : Bool) (n1 n2 : ByteArray) (day other further : Int) (w : World)
    (HS : Hid (∀ w : World, Calls Tryz.prog 28 #[] w fun e w' => e = .returned (.bool true) ∧ Below w.heap.size w w'))
    (HF : Hid (∀ w', Below w.heap.size w w' → Calls Tryz.prog 29 #[.slice q n capq] w' fun e w'' => e = .returned (.bool true) ∧ Below w'.heap.size w' w''))
    (HR : Hid (∀ w : World, Calls Tryz.prog 30 #[.agg #[.bool n0, .string n1, .string n2]] w fun e w' => e = .returned (.bool true) ∧ Below w.heap.size w w'))
    (HC : Hid (IntsIs w (.slice p m cap) cs)) (xs : List Ins) (HXL : Hid (xs.length = n)) (HX : Hid (CodeIs w (.slice q n capq) xs)) (us : List UseV) (ws : List WorkV) (lead left E : Int)
    (HRun : Hid (∀ w' v', Below w.heap.size w w' → IntsIs w' v' (cs ++ [day]) ∨ IntsIs w' v' (cs ++ [other]) ∨ IntsIs w' v' (cs ++ [further] ++ [day]) → (∀ x ∈ xs, dayBad m day other x = false) →
      Calls Tryz.prog 31 #[.slice q n capq, v', .agg #[.bool n0, .string n1, .string n2], .int .i64 (n : Int)] w' (RunRes w' us ws lead left E)))
    : Calls Tryz.prog 12 #[.slice q n capq, .slice p m cap, .int .i64 day, .int .i64 other, .int .i64 further, .agg #[.bool n0, .string n1, .string n2]] w fun e w' => e = .returned (.bool true) ∧ Below w.heap.size w w' := by
  have HA : Hid (Blk (w.alloc (.cells #[.bool n0, .string n1, .string n2] 48)) w.heap.size 48 #[.bool n0, .string n1, .string n2]) := Blk.new w _ _
  have HW : Hid (Below w.heap.size w (w.alloc (.cells #[.bool n0, .string n1, .string n2] 48))) := (Below.refl _ w).alloc (Nat.le_refl _) _
  have hm12 : ¬ (6 : Int) < (m : Int) := by omega
  go_enter Tryz.func12, Tryz.ntmps12
  go_wp2_with (fail)
  refine (HS.out _).mono ?_
  rintro e w1 ⟨rfl, hb1⟩
  have HA1 := Lib.hid (HA.out.under hb1)
  have HW1 := Lib.hid (HW.out.trans (hb1.mono HW.out.size))
  clear hb1
  go_wp2_with (fail)
  refine (HF.out _ HW1.out).mono ?_
  rintro e w2 ⟨rfl, hb1⟩
  have HA2 := Lib.hid (HA1.out.under hb1)
  have HW2 := Lib.hid (HW1.out.trans (hb1.mono HW1.out.size))
  clear hb1
  have c0 := HA2.out.cell (i := 0) rfl
  have c1 := HA2.out.cell (i := 1) rfl
  have c2 := HA2.out.cell (i := 2) rfl
  go_wp2_with (fail)
  refine (HR.out _).mono ?_
  rintro e w3 ⟨rfl, hb1⟩
  have HA3 := Lib.hid (HA2.out.under hb1)
  have HW3 := Lib.hid (HW2.out.trans (hb1.mono HW2.out.size))
  clear hb1 c0 c1 c2
  have hpure : ∀ w : World, (pure #[] : Sem (Array Value)).run Tryz.prog w = .ok #[] w := fun _ => rfl
  have hst0 : ∀ (a : Addr) (w : World), (storeCells a []).run Tryz.prog w = .ok () w := fun _ _ => rfl
  obtain ⟨i0, hi0, hz0, hz1, hz2⟩ := info_parts int_info
  have HI3 := Lib.hid (HC.out.under HW3.out)
  have HR3 := Lib.hid (HI3.out.reads HM.out)
  go_wp2_with (first
    | (at_builtin
       refine wpList_append_any _ rfl (.tmp 48) (.tmp 49) _ rfl w3.heap.size 3 i0 _ 1 8 Tryz.underlying34 hi0 hz0 hz1 hz2 rfl (by omega) (.slice (some ⟨w3.heap.size, 0, none⟩) 0 0) 0 [] rfl
         (own_empty w3 w3.heap.size _ (Nat.le_refl _)) w3.heap.size p m cap (cs.map I64) rfl ((HR3.out).alloc (Nat.le_refl _) _) (I64_one cs) (by simp only [maxLen]; omega) (by omega) (by simp) ?_
       intro va1 wa1 hown1 hg hat
       have hb1 : Below w3.heap.size w3 wa1 := ((Below.refl _ w3).alloc (Nat.le_refl _) _).grown hg (by simp) (by simp [Value.ownBlock])
       have hs1 := hb1.size
       clear hg hat)
    | (at_builtin
       refine wpList_append_any _ rfl (.tmp 50) (.tmp 52) _ rfl w3.heap.size 3 i0 _ 1 8 Tryz.underlying34 hi0 hz0 hz1 hz2 rfl (by omega) va1 (0 + m) ([] ++ cs.map I64) rfl
         (hown1.alloc _) (wa1.heap.size + 1) _ 1 1 [I64 day] rfl (reads_one wa1 day _) (I64_one [day]) (by simp only [maxLen]; omega) (by omega) (by simp; omega) ?_
       intro va2 wa2 hown2 hg hat
       have hb2 : Below w3.heap.size w3 wa2 := (hb1.alloc hs1 _).grown hg (by simp; omega) (fun k hk => (hown1.lt k hk).1)
       have hs2 := hb2.size
       clear hg hat
       have HIA := Lib.hid (ints_of_own hown2 (cs ++ [day]) (by simp))
       have HIC := Lib.hid (HI3.out.under hb2)
       have HW5 := Lib.hid (HW3.out.trans (hb2.mono HW3.out.size))
       have HA5 := Lib.hid (HA3.out.under hb2)
       clear hown1 hown2 hb1 hb2 hs1 hs2)
    | (at_builtin
       refine wpList_append_any _ rfl (.tmp 54) (.tmp 55) _ rfl wa2.heap.size 3 i0 _ 1 8 Tryz.underlying34 hi0 hz0 hz1 hz2 rfl (by omega) (.slice (some ⟨wa2.heap.size, 0, none⟩) 0 0) 0 [] rfl
         (own_empty wa2 wa2.heap.size _ (Nat.le_refl _)) wa2.heap.size p m cap (cs.map I64) rfl ((HIC.out.reads HM.out).alloc (Nat.le_refl _) _) (I64_one cs) (by simp only [maxLen]; omega) (by omega) (by simp) ?_
       intro va3 wa3 hown3 hg hat
       have hb3 : Below wa2.heap.size wa2 wa3 := ((Below.refl _ wa2).alloc (Nat.le_refl _) _).grown hg (by simp) (by simp [Value.ownBlock])
       have hs3 := hb3.size
       clear hg hat)
    | (at_builtin
       refine wpList_append_any _ rfl (.tmp 56) (.tmp 58) _ rfl wa2.heap.size 3 i0 _ 1 8 Tryz.underlying34 hi0 hz0 hz1 hz2 rfl (by omega) va3 (0 + m) ([] ++ cs.map I64) rfl
         (hown3.alloc _) (wa3.heap.size + 1) _ 1 1 [I64 other] rfl (reads_one wa3 other _) (I64_one [other]) (by simp only [maxLen]; omega) (by omega) (by simp; omega) ?_
       intro va4 wa4 hown4 hg hat
       have hb4 : Below wa2.heap.size wa2 wa4 := (hb3.alloc hs3 _).grown hg (by simp; omega) (fun k hk => (hown3.lt k hk).1)
       have hs4 := hb4.size
       clear hg hat
       have HIB := Lib.hid (ints_of_own hown4 (cs ++ [other]) (by simp))
       have HIA7 := Lib.hid (HIA.out.under hb4)
       have HIC7 := Lib.hid (HIC.out.under hb4)
       have HW7 := Lib.hid (HW5.out.trans (hb4.mono HW5.out.size))
       have HA7 := Lib.hid (HA5.out.under hb4)
       clear hown3 hown4 hb3 hb4 hs3 hs4 HIA HIC HW5 HA5))
  go_loopw [62] (fun i wr => ∃ k : Nat, k ≤ n ∧ i = .int .i64 (k : Int) ∧ Hid (Below wa4.heap.size wa4 wr) ∧ Hid (∀ x ∈ xs.take k, dayBad m day other x = false)) (fun i _ => n - (intOf i).toNat)
  case atStart => exact ⟨0, Nat.zero_le _, rfl, Below.refl _ _, fun x hx => by simp at hx⟩
  case round =>
    obtain ⟨k, hk, rfl, HB, HD⟩ := hrel
    by_cases hkn : k < n
    · have hkl : k < xs.length := by rw [HXL.out]; exact hkn
      rcases HX.out.under (HW7.out.trans (HB.out.mono HW7.out.size)) with ⟨q', c', e, hxs⟩ | ⟨g1, o1, c', e, h1, h2⟩
      · exfalso; subst hxs; simp at hkl
      obtain rfl : q = some ⟨g1, o1, none⟩ := by injection e
      clear e
      have hIns := h2.2 k hkl
      have HNX : dayBad m day other xs[k] = false → Hid (∀ x ∈ xs.take (k + 1), dayBad m day other x = false) := fun h => day_next hkl HD.out h
      have HNX := Lib.hid HNX
      clear h1 h2
      generalize xs[k] = x at *
      clear hkl
      obtain ⟨op, a, b', s, nn, d⟩ := x
      obtain ⟨c0, c1, c2, c3, c4, c5⟩ := hIns
      dsimp only at *
      have HB2 : Hid (Below wa4.heap.size wa4 (wr.alloc (.cells #[.int .i64 op, .int .i64 a, .int .i64 b', .bool s, .string nn, .string d] 99))) := HB.out.alloc HB.out.size _
      have HWR : Hid (Below w.heap.size w (wr.alloc (.cells #[.int .i64 op, .int .i64 a, .int .i64 b', .bool s, .string nn, .string d] 99))) := HW7.out.trans (HB2.out.mono HW7.out.size)
      by_cases e1 : op = 1
      case neg =>
        have HN := HNX.out (by simp [dayBad, e1])
        go_wp2
        go_roundw
        case rel => exact ⟨k + 1, by omega, by go_num, HB2.out, HN⟩
        case measure => simp [intOf]; omega
      subst e1
      by_cases e2 : a < 0
      · by_cases e3 : b' ≤ day
        · by_cases e4 : b' ≤ other
          · have HN := HNX.out (by simp [dayBad, e2, e3, e4]; omega)
            have e5 : ¬ (m : Int) ≤ a := by omega
            go_wp2
            go_roundw
            case rel => exact ⟨k + 1, by omega, by go_num, HB2.out, HN⟩
            case measure => simp [intOf]; omega
          · go_wp2
            go_ret
            exact ⟨rfl, HWR.out⟩
        · by_cases e4 : b' ≤ other
          · go_wp2
            go_ret
            exact ⟨rfl, HWR.out⟩
          · have HN := HNX.out (by simp [dayBad, e2, e3, e4]; omega)
            have e5 : ¬ (m : Int) ≤ a := by omega
            go_wp2
            go_roundw
            case rel => exact ⟨k + 1, by omega, by go_num, HB2.out, HN⟩
            case measure => simp [intOf]; omega
      · by_cases e5 : (m : Int) ≤ a
        · go_wp2
          go_ret
          exact ⟨rfl, HWR.out⟩
        · have HN := HNX.out (by simp [dayBad, e2, e5])
          go_wp2
          go_roundw
          case rel => exact ⟨k + 1, by omega, by go_num, HB2.out, HN⟩
          case measure => simp [intOf]; omega
    · obtain rfl : k = n := by omega
      have HALL : Hid (∀ x ∈ xs, dayBad m day other x = false) := by have h := HD.out; rw [List.take_of_length_le (by rw [HXL.out]; exact Nat.le_refl _)] at h; exact h
      have HWr := Lib.hid (HW7.out.trans (HB.out.mono HW7.out.size))
      have HIAr := Lib.hid (HIA7.out.under HB.out)
      have HIBr := Lib.hid (HIB.out.under HB.out)
      have HICr := Lib.hid (HIC7.out.under HB.out)
      have HAr := Lib.hid (HA7.out.under HB.out)
      go_wp2_with (first
        | (at_builtin
           refine wpList_append_any _ rfl (.tmp 93) (.tmp 94) _ rfl wr.heap.size 3 i0 _ 1 8 Tryz.underlying34 hi0 hz0 hz1 hz2 rfl (by omega) (.slice (some ⟨wr.heap.size, 0, none⟩) 0 0) 0 [] rfl
             (own_empty wr wr.heap.size _ (Nat.le_refl _)) wr.heap.size p m cap (cs.map I64) rfl ((HICr.out.reads HM.out).alloc (Nat.le_refl _) _) (I64_one cs) (by simp only [maxLen]; omega) (by omega) (by simp) ?_
           intro va5 wa5 hown5 hg hat
           have hb5 : Below wr.heap.size wr wa5 := ((Below.refl _ wr).alloc (Nat.le_refl _) _).grown hg (by simp) (by simp [Value.ownBlock])
           have hs5 := hb5.size
           clear hg hat)
        | (at_builtin
           refine wpList_append_any _ rfl (.tmp 95) (.tmp 97) _ rfl wr.heap.size 3 i0 _ 1 8 Tryz.underlying34 hi0 hz0 hz1 hz2 rfl (by omega) va5 (0 + m) ([] ++ cs.map I64) rfl
             (hown5.alloc _) (wa5.heap.size + 1) _ 1 1 [I64 further] rfl (reads_one wa5 further _) (I64_one [further]) (by simp only [maxLen]; omega) (by omega) (by simp; omega) ?_
           intro va6 wa6 hown6 hg hat
           have hb6 : Below wr.heap.size wr wa6 := (hb5.alloc hs5 _).grown hg (by simp; omega) (fun k hk => (hown5.lt k hk).1)
           have hs6 := hb6.size
           clear hg hat
           clear hown5 hb5 hs5)
        | (at_builtin
           refine wpList_append_any _ rfl (.tmp 98) (.tmp 100) _ rfl wr.heap.size 3 i0 _ 1 8 Tryz.underlying34 hi0 hz0 hz1 hz2 rfl (by omega) va6 (0 + m + 1) ([] ++ cs.map I64 ++ [I64 further]) rfl
             (hown6.alloc _) (wa6.heap.size + 1) _ 1 1 [I64 day] rfl (reads_one wa6 day _) (I64_one [day]) (by simp only [maxLen]; omega) (by omega) (by simp; omega) ?_
           intro va7 wa7 hown7 hg hat
           have hb7 : Below wr.heap.size wr wa7 := (hb6.alloc hs6 _).grown hg (by simp; omega) (fun k hk => (hown6.lt k hk).1)
           have hs7 := hb7.size
           clear hg hat
           have HID8 := Lib.hid (ints_of_own hown7 (cs ++ [further] ++ [day]) (by simp))
           have HIA8 := Lib.hid (HIAr.out.under hb7)
           have HIB8 := Lib.hid (HIBr.out.under hb7)
           have HW8 := Lib.hid (HWr.out.trans (hb7.mono HWr.out.size))
           have HA8 := Lib.hid (HAr.out.under hb7)
           have c0 := HA8.out.cell (i := 0) rfl
           have c1 := HA8.out.cell (i := 1) rfl
           have c2 := HA8.out.cell (i := 2) rfl
           clear hown6 hown7 hb6 hb7 hs6 hs7))
      refine (HRun.out _ _ HW8.out (.inl HIA8.out) HALL.out).mono ?_
      rintro e w9 ⟨u1, k1, rfl, hu, hk, hb1⟩
      have HIB9 := Lib.hid (HIB8.out.under hb1)
      have HID9 := Lib.hid (HID8.out.under hb1)
      have HW9 := Lib.hid (HW8.out.trans (hb1.mono HW8.out.size))
      have HA9 := Lib.hid (HA8.out.under hb1)
      have HU9 := Lib.hid hu
      have HK9 := Lib.hid hk
      clear hu hk hb1 c0 c1 c2
      have c0 := HA9.out.cell (i := 0) rfl
      have c1 := HA9.out.cell (i := 1) rfl
      have c2 := HA9.out.cell (i := 2) rfl
      go_wp2_with (fail)
      refine (HRun.out _ _ HW9.out (.inr (.inl HIB9.out)) HALL.out).mono ?_
      rintro e w10 ⟨u2, k2, rfl, hu, hk, hb1⟩
      have HID10 := Lib.hid (HID9.out.under hb1)
      have HW10 := Lib.hid (HW9.out.trans (hb1.mono HW9.out.size))
      have HA10 := Lib.hid (HA9.out.under hb1)
      have HU10 := Lib.hid (uses_under HU9.out hb1)
      have HK10 := Lib.hid (work_under HK9.out hb1)
      have HV10 := Lib.hid hu
      have HL10 := Lib.hid hk
      clear hu hk hb1 c0 c1 c2
      have c0 := HA10.out.cell (i := 0) rfl
      have c1 := HA10.out.cell (i := 1) rfl
      have c2 := HA10.out.cell (i := 2) rfl
      go_wp2_with (fail)
      refine (HRun.out _ _ HW10.out (.inr (.inr HID10.out)) HALL.out).mono ?_
      rintro e w11 ⟨u3, k3, rfl, hu, hk, hb1⟩
      have HW11 := Lib.hid (HW10.out.trans (hb1.mono HW10.out.size))
      have HU11 := Lib.hid (uses_under HU10.out hb1)
      have HK11 := Lib.hid (work_under HK10.out hb1)
      have HV11 := Lib.hid (uses_under HV10.out hb1)
      have HL11 := Lib.hid (work_under HL10.out hb1)
      have HY11 := Lib.hid hu
      have HZ11 := Lib.hid hk
      clear hu hk hb1 c0 c1 c2
      have l1 : (lead == lead) = true := by simp
      have l2 : (left == left) = true := by simp
      have l3 : (E == E) = true := by simp
      go_wp2_with (fail)
      refine (SameUses_any _ _ us us _ HU11.out HV11.out).mono ?_
      rw [decide_eq_true (show us = us from rfl)]
      rintro e w12 ⟨rfl, hb1⟩
      have HW12 := Lib.hid (HW11.out.trans (hb1.mono HW11.out.size))
      have HU12 := Lib.hid (uses_under HU11.out hb1)
      have HY12 := Lib.hid (uses_under HY11.out hb1)
      have HK12 := Lib.hid (work_under HK11.out hb1)
      have HL12 := Lib.hid (work_under HL11.out hb1)
      have HZ12 := Lib.hid (work_under HZ11.out hb1)
      clear hb1
      go_wp2_with (fail)
      refine (SameUses_any _ _ us us _ HU12.out HY12.out).mono ?_
      rw [decide_eq_true (show us = us from rfl)]
      rintro e w13 ⟨rfl, hb1⟩
      have HW13 := Lib.hid (HW12.out.trans (hb1.mono HW12.out.size))
      have HK13 := Lib.hid (work_under HK12.out hb1)
      have HL13 := Lib.hid (work_under HL12.out hb1)
      have HZ13 := Lib.hid (work_under HZ12.out hb1)
      clear hb1
      go_wp2_with (fail)
      refine (SameWork_any _ _ ws ws _ HK13.out HL13.out).mono ?_
      rw [decide_eq_true (show ws = ws from rfl)]
      rintro e w14 ⟨rfl, hb1⟩
      have HW14 := Lib.hid (HW13.out.trans (hb1.mono HW13.out.size))
      have HK14 := Lib.hid (work_under HK13.out hb1)
      have HZ14 := Lib.hid (work_under HZ13.out hb1)
      clear hb1
      go_wp2_with (fail)
      refine (SameWork_any _ _ ws ws _ HK14.out HZ14.out).mono ?_
      rw [decide_eq_true (show ws = ws from rfl)]
      rintro e w15 ⟨rfl, hb1⟩
      have HW15 := Lib.hid (HW14.out.trans (hb1.mono HW14.out.size))
      clear hb1
      go_wp2
      go_ret
      exact ⟨rfl, HW15.out⟩
end Go.Proofs.YtekjphkabfiheaaGreat
/- MachineDay: joined. -/
namespace Go.Proofs.YtekjphkabfiheaaGreat
open Go.RowKit BF

set_option maxRecDepth 100000 in
set_option maxHeartbeats 2000000 in
theorem day_few (b1 b2 : Bool) (m : Nat) (hm : m ≤ maxLen) (hb : b1 = false ∨ b1 = true ∧ b2 = false ∨ b1 = true ∧ b2 = true ∧ 6 < m) (cv : Value) (p : Option Addr) (cap : Nat) (n0 : Bool) (n1 n2 : ByteArray) (day other further : Int) (w : World)
    (HS : Hid (∀ w : World, Calls Tryz.prog 28 #[] w fun e w' => e = .returned (.bool true) ∧ Below w.heap.size w w'))
    (HF : Hid (∀ w', Below w.heap.size w w' → Calls Tryz.prog 29 #[cv] w' fun e w'' => e = .returned (.bool b1) ∧ Below w'.heap.size w' w''))
    (HR : Hid (∀ w : World, Calls Tryz.prog 30 #[.agg #[.bool n0, .string n1, .string n2]] w fun e w' => e = .returned (.bool b2) ∧ Below w.heap.size w w')) :
    Calls Tryz.prog 12 #[cv, .slice p m cap, .int .i64 day, .int .i64 other, .int .i64 further, .agg #[.bool n0, .string n1, .string n2]] w fun e w' => e = .returned (.bool true) ∧ Below w.heap.size w w' := by
  unfold maxLen at hm
  have HA : Hid (Blk (w.alloc (.cells #[.bool n0, .string n1, .string n2] 48)) w.heap.size 48 #[.bool n0, .string n1, .string n2]) := Blk.new w _ _
  have HW : Hid (Below w.heap.size w (w.alloc (.cells #[.bool n0, .string n1, .string n2] 48))) := (Below.refl _ w).alloc (Nat.le_refl _) _
  go_enter Tryz.func12, Tryz.ntmps12
  go_wp2_with (fail)
  refine (HS.out _).mono ?_
  rintro e w1 ⟨rfl, hb1⟩
  have HA1 := Lib.hid (HA.out.under hb1)
  have HW1 := Lib.hid (HW.out.trans (hb1.mono HW.out.size))
  clear hb1
  go_wp2_with (fail)
  refine (HF.out _ HW1.out).mono ?_
  rintro e w2 ⟨rfl, hb1⟩
  have HA2 := Lib.hid (HA1.out.under hb1)
  have HW2 := Lib.hid (HW1.out.trans (hb1.mono HW1.out.size))
  clear hb1
  rcases hb with rfl | ⟨rfl, rfl⟩ | ⟨rfl, rfl, h12⟩
  · go_wp2
    go_ret
    exact ⟨rfl, HW2.out⟩
  · have c0 := HA2.out.cell (i := 0) rfl
    have c1 := HA2.out.cell (i := 1) rfl
    have c2 := HA2.out.cell (i := 2) rfl
    go_wp2_with (fail)
    refine (HR.out _).mono ?_
    rintro e w3 ⟨rfl, hb1⟩
    have HW3 := Lib.hid (HW2.out.trans (hb1.mono HW2.out.size))
    clear hb1 c0 c1 c2
    go_wp2
    go_ret
    exact ⟨rfl, HW3.out⟩
  · have c0 := HA2.out.cell (i := 0) rfl
    have c1 := HA2.out.cell (i := 1) rfl
    have c2 := HA2.out.cell (i := 2) rfl
    go_wp2_with (fail)
    refine (HR.out _).mono ?_
    rintro e w3 ⟨rfl, hb1⟩
    have HW3 := Lib.hid (HW2.out.trans (hb1.mono HW2.out.size))
    clear hb1 c0 c1 c2
    have h12' : (6 : Int) < (m : Int) := by omega
    go_wp2
    go_ret
    exact ⟨rfl, HW3.out⟩

theorem runRes_of {w w' : World} {e : Ending} {R : Except Int (MS × Nat)} (h : RunPost w R e w') :
    match R with
    | .error k => RunRes w [] [] 0 0 k e w'
    | .ok (s, l) => RunRes w s.us s.ws s.lead (l : Int) 0 e w' := by
  match R, h with
  | .error k, ⟨he, hb⟩ => exact ⟨_, _, he, .inl ⟨_, _, rfl, rfl⟩, .inl ⟨_, _, rfl, rfl⟩, hb⟩
  | .ok (s, l), ⟨hb, u, k, he, hu, hk⟩ => exact ⟨u, k, he, uses_row hu, work_row hk, hb⟩
theorem dayBad_ok {m : Nat} {day other : Int} {x : Ins} (h : dayBad m day other x = false) (h1 : x.op = 1) : (x.a < 0 → decide (x.b ≤ day) = decide (x.b ≤ other)) ∧ x.a < m := by
  unfold dayBad at h
  rw [decide_eq_true h1, Bool.true_and, Bool.or_eq_false_iff] at h
  obtain ⟨h2, h3⟩ := h
  have h3 := of_decide_eq_false h3
  refine ⟨fun ha => ?_, by omega⟩
  rw [decide_eq_true ha, Bool.true_and] at h2
  simpa using h2

theorem day_walk (HS : SaneHolds) (xs : List Ins) (cs : List Int) (am : RV) (day other further : Int) (cv sv : Value) (w : World) (hx : CodeIs w cv xs) (hf : ∀ x ∈ xs, x.r.fits) (hl : xs.length ≤ maxLen) (hs : IntsIs w sv cs) (hsl : cs.length ≤ maxLen) (ha : am.fits) :
    Calls Tryz.prog 12 #[cv, sv, .int .i64 day, .int .i64 other, .int .i64 further, am.v] w fun e w' => e = .returned (.bool true) ∧ Below w.heap.size w w' := by
  obtain ⟨q, capq, hcv⟩ := hx.form
  obtain ⟨p, cap, hsv⟩ := hs.form
  have HF : ∀ b, fewC xs = b → Hid (∀ w', Below w.heap.size w w' → Calls Tryz.prog 29 #[cv] w' fun e w'' => e = .returned (.bool b) ∧ Below w'.heap.size w' w'') := fun b hb => by
    subst hb; exact fun w' h => Few_any cv xs w' (hx.under h) hf hl
  have HR : ∀ b, fewB am = b → Hid (∀ w : World, Calls Tryz.prog 30 #[.agg #[.bool am.neg, .string am.n, .string am.d]] w fun e w' => e = .returned (.bool b) ∧ Below w.heap.size w w') := fun b hb => by
    subst hb; exact fun w' => FewRatio_any am ha w'
  show Calls _ _ #[cv, sv, .int .i64 day, .int .i64 other, .int .i64 further, .agg #[.bool am.neg, .string am.n, .string am.d]] _ _
  cases hb1 : fewC xs with
  | false => rw [hsv]; exact day_few false (fewB am) cs.length hsl (.inl rfl) cv p cap am.neg am.n am.d day other further w HS (HF _ hb1) (HR _ rfl)
  | true =>
  cases hb2 : fewB am with
  | false => rw [hsv]; exact day_few true false cs.length hsl (.inr (.inl ⟨rfl, rfl⟩)) cv p cap am.neg am.n am.d day other further w HS (HF _ hb1) (HR _ hb2)
  | true =>
  by_cases hc : 6 < cs.length
  · rw [hsv]; exact day_few true true cs.length hsl (.inr (.inr ⟨rfl, rfl, hc⟩)) cv p cap am.neg am.n am.d day other further w HS (HF _ hb1) (HR _ hb2)
  have hn := fewC_len hb1
  have HRun : ∀ R, runV xs (cs ++ [day]) am (xs.length : Int) = R → ∀ w' v', Below w.heap.size w w' → IntsIs w' v' (cs ++ [day]) ∨ IntsIs w' v' (cs ++ [other]) ∨ IntsIs w' v' (cs ++ [further] ++ [day]) → (∀ x ∈ xs, dayBad cs.length day other x = false) →
      Calls Tryz.prog 31 #[.slice q xs.length capq, v', .agg #[.bool am.neg, .string am.n, .string am.d], .int .i64 (xs.length : Int)] w' (RunPost w' R) := by
    intro R hR w' v' hb hi hbad
    have h1 : ∀ l : List Int, runV xs (cs ++ [day]) am (xs.length : Int) = runV xs (cs ++ l ++ [other]) am (xs.length : Int) := fun l => day_law xs cs am day other _ l (fun x hx hop => dayBad_ok (hbad x hx) hop)
    have h2 : runV xs (cs ++ [day]) am (xs.length : Int) = runV xs (cs ++ [further] ++ [day]) am (xs.length : Int) := day_law xs cs am day day _ [further] (fun x hx hop => ⟨fun _ => rfl, (dayBad_ok (hbad x hx) hop).2⟩)
    have hrun : ∀ l, l.length ≤ 1000 → IntsIs w' v' l → runV xs (cs ++ [day]) am (xs.length : Int) = runV xs l am (xs.length : Int) → Calls Tryz.prog 31 #[.slice q xs.length capq, v', .agg #[.bool am.neg, .string am.n, .string am.d], .int .i64 (xs.length : Int)] w' (RunPost w' R) := fun l hl hi he => by
      have := Run_any xs l am (xs.length : Int) cv v' w' (hx.under hb) hn hf ha hi hl (by omega)
      rw [← he, hR, hcv] at this
      exact this
    rcases hi with hi | hi | hi
    · exact hrun _ (by simp; omega) hi rfl
    · exact hrun _ (by simp; omega) hi (by have := h1 []; simpa using this)
    · exact hrun _ (by simp; omega) hi h2
  have HFt := HF _ hb1
  have HRt := HR _ hb2
  have hC := hs
  have hX := hx
  rw [hcv] at HFt hX
  rw [hsv] at hC
  rw [hcv, hsv]
  cases hR : runV xs (cs ++ [day]) am (xs.length : Int) with
  | error k => exact day_a xs.length cs.length hn (by omega) cs rfl q p capq cap am.neg am.n am.d day other further w HS HFt HRt hC xs rfl hX [] [] 0 0 k (fun w' v' h1 h2 h3 => (HRun _ hR w' v' h1 h2 h3).mono fun e w'' h => runRes_of h)
  | ok sl =>
    obtain ⟨s, l⟩ := sl
    exact day_a xs.length cs.length hn (by omega) cs rfl q p capq cap am.neg am.n am.d day other further w HS HFt HRt hC xs rfl hX s.us s.ws s.lead (l : Int) 0 (fun w' v' h1 h2 h3 => (HRun _ hR w' v' h1 h2 h3).mono fun e w'' h => runRes_of h)
end Go.Proofs.YtekjphkabfiheaaGreat
