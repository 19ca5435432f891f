/- The reference of layer 6: sizes, orders, digits, sums and differences. Conditions: those that each theorem states. -/
import Derived.Test.YteggbpaljmopoaaGreatNatsB
import Derived.Carry
set_option linter.unusedVariables false
set_option linter.unusedSimpArgs false
/- backflushref06: Natural, Check, both, short, digits' length. -/
namespace Go.Proofs.YteggbpaljmopoaaGreat
open Go.RowKit BF

theorem natB_parts (s : ByteArray) : (s.toList = [] ∧ s.size = 0 ∧ natB s = true) ∨ (0 < s.size ∧ s.toList.isEmpty = false ∧ ∀ h : 0 < s.size, natB s = ((s[0].toNat : Int) != 0)) := by
  by_cases h0 : s.toList = []
  · have hz : s.size = 0 := by
      have : s.toList.length = 0 := by rw [h0]; rfl
      rw [ByteArray.toList_eq] at this
      simpa using this
    refine .inl ⟨h0, hz, ?_⟩
    unfold natB
    have : s.data.toList = [] := List.length_eq_zero_iff.1 hz
    rw [this]; rfl
  · have hz : 0 < s.size := by
      rcases Nat.eq_zero_or_pos s.size with h | h
      · exfalso; apply h0
        rw [ByteArray.toList_eq]
        exact List.length_eq_zero_iff.1 (by simpa using h)
      · exact h
    refine .inr ⟨hz, by simpa using h0, fun _ => ?_⟩
    unfold natB natural
    have hl : 0 < s.data.toList.length := hz
    have e : s.data.toList.head? = some s[0] := by
      rw [List.head?_eq_getElem?, List.getElem?_eq_getElem hl]; rfl
    rw [e]
    have : ∀ b : UInt8, (some b != some 0) = ((b.toNat : Int) != 0) := by
      intro b
      rw [Bool.eq_iff_iff]
      simp [← UInt8.toNat_inj]
    exact this _
set_option maxHeartbeats 400000 in
theorem rNatural_any (s : ByteArray) (w : World) (hs : s.size ≤ maxLen) :
    Calls Tryz.prog 68 #[.string s] w fun e w' => e = .returned (.bool (natB s)) ∧ w' = w := by
  unfold maxLen at hs
  rcases natB_parts s with ⟨h0, hz, hb⟩ | ⟨hz, h1, hb⟩
  · have HB := Lib.hid hb
    clear hb hz
    have h1 : s.toList.isEmpty = true := by rw [h0]; rfl
    go_enter Tryz.func68, Tryz.ntmps68
    go_wp2
    go_ret
    exact ⟨by rw [HB.out]; rfl, rfl⟩
  · have HB := Lib.hid (hb hz)
    clear hb
    have h0 : s.toList ≠ [] := by intro h; rw [h] at h1; cases h1
    go_enter Tryz.func68, Tryz.ntmps68
    go_wp2
    go_ret
    exact ⟨by rw [HB.out]; rfl, rfl⟩
set_option maxHeartbeats 400000 in
theorem rCheck_any (s : ByteArray) (w : World) (hs : s.size ≤ maxLen) :
    Calls Tryz.prog 43 #[.string s] w fun e w' => e = .returned (.int .i64 (chk [s])) ∧ w' = w := by
  have hN := rNatural_any s w hs
  have hc : chk [s] = if natB s = true then (if s.size ≤ 256 then 0 else 2) else 60 := by unfold chk; simp
  rw [hc]
  unfold maxLen at hs
  cases hb : natB s with
  | false =>
    rw [hb] at hN
    have HN := Lib.hid hN
    clear hN hb hc
    go_enter Tryz.func43, Tryz.ntmps43
    go_wp2_with (fail)
    refine HN.out.mono ?_
    rintro e w1 ⟨rfl, rfl⟩
    go_wp2
    go_ret
    exact ⟨rfl, rfl⟩
  | true =>
    rw [hb] at hN
    have HN := Lib.hid hN
    clear hN hb hc
    by_cases h2 : s.size ≤ 256
    · rw [if_pos rfl, if_pos h2]
      have h2' : ¬ (256 : Int) < (s.size : Int) := by omega
      go_enter Tryz.func43, Tryz.ntmps43
      go_wp2_with (fail)
      refine HN.out.mono ?_
      rintro e w1 ⟨rfl, rfl⟩
      go_wp2
      go_ret
      exact ⟨rfl, rfl⟩
    · rw [if_pos rfl, if_neg h2]
      have h2' : (256 : Int) < (s.size : Int) := by omega
      go_enter Tryz.func43, Tryz.ntmps43
      go_wp2_with (fail)
      refine HN.out.mono ?_
      rintro e w1 ⟨rfl, rfl⟩
      go_wp2
      go_ret
      exact ⟨rfl, rfl⟩
theorem chk_two (a b : ByteArray) : chk [a, b] = if natB a = true ∧ natB b = true then (if a.size ≤ 256 ∧ b.size ≤ 256 then 0 else 2) else 60 := by unfold chk; simp
set_option maxHeartbeats 1000000 in
theorem rboth_any (a b : ByteArray) (w : World) (ha : a.size ≤ maxLen) (hb : b.size ≤ maxLen) :
    Calls Tryz.prog 69 #[.string a, .string b] w fun e w' => e = .returned (.int .i64 (chk [a, b])) ∧ w' = w := by
  have hN := rNatural_any a w ha
  have hM := rNatural_any b w hb
  have hk := chk_two a b
  unfold maxLen at ha hb
  cases h1 : natB a with
  | false =>
    rw [h1] at hN
    have HN := Lib.hid hN
    have e : chk [a, b] = 60 := by rw [hk, h1]; simp
    rw [e]
    clear hN hM h1 hk e
    go_enter Tryz.func69, Tryz.ntmps69
    go_wp2_with (fail)
    refine HN.out.mono ?_
    rintro e w1 ⟨rfl, rfl⟩
    go_wp2
    go_ret
    exact ⟨rfl, rfl⟩
  | true =>
    rw [h1] at hN
    have HN := Lib.hid hN
    cases h2 : natB b with
    | false =>
      rw [h2] at hM
      have HM := Lib.hid hM
      have e : chk [a, b] = 60 := by rw [hk, h2]; simp
      rw [e]
      clear hN hM h1 h2 hk e
      go_enter Tryz.func69, Tryz.ntmps69
      go_wp2_with (fail)
      refine HN.out.mono ?_
      rintro e w1 ⟨rfl, rfl⟩
      go_wp2_with (fail)
      refine HM.out.mono ?_
      rintro e w1 ⟨rfl, rfl⟩
      go_wp2
      go_ret
      exact ⟨rfl, rfl⟩
    | true =>
      rw [h2] at hM
      have HM := Lib.hid hM
      rw [h1, h2, if_pos ⟨rfl, rfl⟩] at hk
      by_cases k1 : (256 : Int) < (a.size : Int)
      · rw [hk, if_neg (by omega)]
        clear hN hM h1 h2 hk
        go_enter Tryz.func69, Tryz.ntmps69
        go_wp2_with (fail)
        refine HN.out.mono ?_
        rintro e w1 ⟨rfl, rfl⟩
        go_wp2_with (fail)
        refine HM.out.mono ?_
        rintro e w1 ⟨rfl, rfl⟩
        go_wp2
        go_ret
        exact ⟨rfl, rfl⟩
      · by_cases k2 : (256 : Int) < (b.size : Int)
        · rw [hk, if_neg (by omega)]
          clear hN hM h1 h2 hk
          go_enter Tryz.func69, Tryz.ntmps69
          go_wp2_with (fail)
          refine HN.out.mono ?_
          rintro e w1 ⟨rfl, rfl⟩
          go_wp2_with (fail)
          refine HM.out.mono ?_
          rintro e w1 ⟨rfl, rfl⟩
          go_wp2
          go_ret
          exact ⟨rfl, rfl⟩
        · rw [hk, if_pos (by omega)]
          clear hN hM h1 h2 hk
          go_enter Tryz.func69, Tryz.ntmps69
          go_wp2_with (fail)
          refine HN.out.mono ?_
          rintro e w1 ⟨rfl, rfl⟩
          go_wp2_with (fail)
          refine HM.out.mono ?_
          rintro e w1 ⟨rfl, rfl⟩
          go_wp2
          go_ret
          exact ⟨rfl, rfl⟩
set_option maxHeartbeats 400000 in
theorem rshort_any (s : ByteArray) (w : World) (hs : s.size ≤ maxLen) :
    Calls Tryz.prog 75 #[.string s] w fun e w' => e = .returned (.tuple (if s.size ≤ 256 then #[.string s, .int .i64 0] else #[.string { data := #[] }, .int .i64 2])) ∧ w' = w := by
  unfold maxLen at hs
  by_cases k1 : (256 : Int) < (s.size : Int)
  · rw [if_neg (by omega)]
    go_enter Tryz.func75, Tryz.ntmps75
    go_wp2
    go_ret2
    exact ⟨rfl, rfl⟩
  · rw [if_pos (by omega)]
    go_enter Tryz.func75, Tryz.ntmps75
    go_wp2
    go_ret2
    exact ⟨rfl, rfl⟩
end Go.Proofs.YteggbpaljmopoaaGreat
/- backflushref06: less. -/
namespace Go.Proofs.YteggbpaljmopoaaGreat
open Go.RowKit BF

theorem foldl_dec (l : List UInt8) : ∀ x : Nat, l.foldl (fun a b => 256 * a + b.toNat) x = x * 256 ^ l.length + dec l := by
  induction l with
  | nil => intro x; simp [dec]
  | cons c l ih =>
    intro x
    have e : dec (c :: l) = c.toNat * 256 ^ l.length + dec l := by
      show List.foldl _ (256 * 0 + c.toNat) l = _
      rw [ih]; simp
    rw [List.foldl_cons, ih, e, List.length_cons, Nat.pow_succ, Nat.add_mul]
    have : 256 * x * 256 ^ l.length = x * (256 ^ l.length * 256) := by rw [Nat.mul_comm 256 x, Nat.mul_assoc, Nat.mul_comm 256]
    omega
theorem dec_append (a b : List UInt8) : dec (a ++ b) = dec a * 256 ^ b.length + dec b := by
  show List.foldl _ 0 (a ++ b) = _
  rw [List.foldl_append, foldl_dec]
  rfl
/-- the first place where two texts of one length differ decides -/
theorem dec_first {a b : List UInt8} (hl : a.length = b.length) {k : Nat} (hk : k < a.length) (hk' : k < b.length) (ht : a.take k = b.take k) (hx : a[k].toNat < b[k].toNat) : dec a < dec b := by
  have ea : a = a.take (k + 1) ++ a.drop (k + 1) := (List.take_append_drop _ _).symm
  have eb : b = b.take (k + 1) ++ b.drop (k + 1) := (List.take_append_drop _ _).symm
  rw [ea, eb, dec_append, dec_append, int_step a k hk, int_step b k hk', ht]
  have h1 := dec_lt (a.drop (k + 1))
  have h2 : (a.drop (k + 1)).length = (b.drop (k + 1)).length := by simp [hl]
  rw [← h2]
  generalize 256 ^ (a.drop (k + 1)).length = p at *
  generalize dec (b.take k) = t at *
  have h3 : (256 * t + a[k].toNat + 1) * p ≤ (256 * t + b[k].toNat) * p := Nat.mul_le_mul_right _ (by omega)
  rw [Nat.add_mul, Nat.one_mul] at h3
  omega
theorem nat_len {a b : ByteArray} (ha : natB a = true) (hb : natB b = true) (h : a.size < b.size) : val a < val b := by
  have h1 : val a < 256 ^ a.size := dec_lt a.data.toList
  have h2 := (enc_length_le_iff (val b) a.size)
  have h3 : (enc (val b)).length = b.size := by
    have := enc_val hb
    have := congrArg ByteArray.size this
    rwa [str_size] at this
  rw [h3] at h2
  rcases Nat.lt_or_ge (val b) (256 ^ a.size) with h | h
  · have := h2.2 h; omega
  · omega
theorem below_drewN' {B : Nat} {a w : World} (h : Below B a w) (n : Nat) : Below B a (w.drewN n) := ⟨h.os, h.tape, h.output, h.size, h.block⟩
theorem take_one {a b : ByteArray} {k : Nat} (hk : k < a.size) (hk' : k < b.size) (h : a.data.toList.take k = b.data.toList.take k) (he : a[k].toNat = b[k].toNat) : a.data.toList.take (k + 1) = b.data.toList.take (k + 1) := by
  have hk1 : k < a.data.toList.length := hk
  have hk2 : k < b.data.toList.length := hk'
  rw [List.take_succ_eq_append_getElem hk1, List.take_succ_eq_append_getElem hk2, h]
  have : a.data.toList[k] = b.data.toList[k] := UInt8.toNat_inj.1 he
  rw [this]
set_option maxRecDepth 100000 in
set_option maxHeartbeats 1000000 in
theorem r6less_any (a b : ByteArray) (w : World) (ha : natB a = true) (hb : natB b = true) (hs : a.size ≤ maxLen) (hs' : b.size ≤ maxLen) :
    Calls Tryz.prog 101 #[.string a, .string b] w fun e w' => e = .returned (.bool (decide (val a < val b))) ∧ Below w.heap.size w w' := by
  unfold maxLen at hs hs'
  by_cases hl : a.size = b.size
  · have HL : Hid (a.size = b.size) := hl
    have HK : ∀ r, decide (val a < val b) = r → Hid (decide (val a < val b) = r) := fun r h => h
    have hd : ((a.size : Int) != (b.size : Int)) = false := by simp [hl]
    obtain ⟨r, hr⟩ : ∃ r, decide (val a < val b) = r := ⟨_, rfl⟩
    rw [hr]
    have HR : Hid (decide (dec a.data.toList < dec b.data.toList) = r) := hr
    clear hr hl HK ha hb
    go_enter Tryz.func101, Tryz.ntmps101
    go_wp2_with (fail)
    go_loopw [5] (fun i wr => ∃ k : Nat, k ≤ a.size ∧ i = .int .i64 (k : Int) ∧ Hid (a.data.toList.take k = b.data.toList.take k) ∧ ∃ m, wr = w.drewN m) (fun i _ => a.size - (intOf i).toNat)
    case atStart => exact ⟨0, Nat.zero_le _, rfl, rfl, 0, rfl⟩
    case round =>
      obtain ⟨k, hk, rfl, HT, m, rfl⟩ := hrel
      by_cases hkn : k < a.size
      · have hkb : k < b.size := by rw [← HL.out]; exact hkn
        have HF : a[k].toNat < b[k].toNat → Hid (true = r) := fun h => by rw [← HR.out, decide_eq_true]; rfl; exact dec_first HL.out hkn hkb HT.out h
        have HG : b[k].toNat < a[k].toNat → Hid (false = r) := fun h => by
          rw [← HR.out, decide_eq_false]; rfl
          exact Nat.not_lt.2 (Nat.le_of_lt (dec_first HL.out.symm hkb hkn HT.out.symm h))
        have HE : a[k].toNat = b[k].toNat → Hid (a.data.toList.take (k + 1) = b.data.toList.take (k + 1)) := fun h => take_one hkn hkb HT.out h
        have HF := Lib.hid HF
        have HG := Lib.hid HG
        have HE := Lib.hid HE
        rcases Nat.lt_trichotomy a[k].toNat b[k].toNat with h | h | h
        · have H := HF.out h
          clear HF HG HE
          have h1 : ((a[k].toNat : Int) != (b[k].toNat : Int)) = true := by simp; omega
          go_wp2
          go_quiet (fail)
          go_wp2
          go_quiet (fail)
          go_wp2
          go_ret
          exact ⟨by rw [← H.out]; rfl, by repeat (first | exact Below.refl _ _ | refine below_drewN' ?_ _ | refine Below.drew ?_)⟩
        · have H := HE.out h
          clear HF HG HE
          have h1 : ((a[k].toNat : Int) != (b[k].toNat : Int)) = false := by simp; omega
          clear h
          go_wp2
          go_quiet (fail)
          go_wp2
          go_roundw
          case rel => exact ⟨k + 1, by omega, by go_num, H, _, by first | rfl | exact World.drewN_drewN _ _ _⟩
          case measure => simp [intOf]; omega
        · have H := HG.out h
          clear HF HG HE
          have h1 : ((a[k].toNat : Int) != (b[k].toNat : Int)) = true := by simp; omega
          have h2 : ¬ a[k].toNat < b[k].toNat := by omega
          clear h
          go_wp2
          go_quiet (fail)
          go_wp2
          go_quiet (fail)
          go_wp2
          go_ret
          exact ⟨by rw [← H.out]; rfl, by repeat (first | exact Below.refl _ _ | refine below_drewN' ?_ _ | refine Below.drew ?_)⟩
      · obtain rfl : k = a.size := by omega
        have H : Hid (false = r) := by
          rw [← HR.out, decide_eq_false]; rfl
          have h := HT.out
          have e1 : a.data.toList.take a.size = a.data.toList := List.take_length
          have e2 : b.data.toList.take a.size = b.data.toList := by rw [HL.out]; exact List.take_length
          rw [e1, e2] at h
          rw [h]; exact Nat.lt_irrefl _
        go_wp2
        go_ret
        exact ⟨by rw [← H.out]; rfl, by repeat (first | exact Below.refl _ _ | refine below_drewN' ?_ _ | refine Below.drew ?_)⟩
  · have hd : ((a.size : Int) != (b.size : Int)) = true := by simp; omega
    by_cases h : a.size < b.size
    · rw [decide_eq_true (nat_len ha hb h)]
      have h' : (a.size : Int) < (b.size : Int) := by omega
      clear ha hb
      go_enter Tryz.func101, Tryz.ntmps101
      go_wp2
      go_ret
      exact ⟨rfl, Below.refl _ _⟩
    · rw [decide_eq_false (Nat.not_lt.2 (Nat.le_of_lt (nat_len hb ha (by omega))))]
      have h' : ¬ (a.size : Int) < (b.size : Int) := by omega
      clear ha hb
      go_enter Tryz.func101, Tryz.ntmps101
      go_wp2
      go_ret
      exact ⟨rfl, Below.refl _ _⟩
end Go.Proofs.YteggbpaljmopoaaGreat
/- backflushref06: rows of ints, digits, at. -/
namespace Go.Proofs.YteggbpaljmopoaaGreat
open Go.RowKit BF

def ZI (z : Int) : Value := .int .i64 z
/-- an owned row of ints -/
def zs (w : World) (base : Nat) (v : Value) (l : List Int) : Prop := w.ownsRow base 3 1 v l.length (l.map ZI)
theorem info_int : (Tryz.prog.info? 3).map (fun i => (i.zero, i.size, i.bytes)) = some (some (.int .i64 0), 1, 8) := by kernel_rfl
theorem zs_form {w : World} {base : Nat} {v : Value} {l : List Int} (h : zs w base v l) : ∃ a c, v = .slice a l.length c ∧ (a = none → l = []) := by
  obtain ⟨_, h | ⟨g, cap, cur, rfl, h1, h2, h3, h4, h5, h6⟩⟩ := h
  · obtain ⟨rfl, h⟩ := h
    have := List.length_eq_zero_iff.1 h
    subst this
    exact ⟨_, _, rfl, fun _ => rfl⟩
  · exact ⟨_, _, rfl, fun h => by cases h⟩
theorem zs_app {w : World} {base : Nat} {v : Value} {l : List Int} {x : Int} (h : w.ownsRow base 3 1 v (l.length + 1) (l.map ZI ++ [.int .i64 x])) : zs w base v (l ++ [x]) := by
  unfold zs
  have e : (l ++ [x]).map ZI = l.map ZI ++ [.int .i64 x] := by simp [ZI]
  rw [e]
  simpa using h
theorem zs_new (w : World) (base : Nat) (h : base ≤ w.heap.size) : zs (w.alloc (.cells #[] 3)) base (.slice (some ⟨w.heap.size, 0, none⟩) 0 0) [] :=
  ⟨rfl, .inr ⟨w.heap.size, 0, #[], rfl, h, (MapKept.heap_alloc w _).1, Nat.le_refl _, by decide, rfl, rfl⟩⟩
theorem zs_under {w w' : World} {base : Nat} {v : Value} {l : List Int} (h : zs w base v l) (hb : Below w.heap.size w w') : zs w' base v l := by
  obtain ⟨h0, h | ⟨g, cap, cur, rfl, h1, h2, h3⟩⟩ := h
  · exact ⟨h0, .inl h⟩
  · exact ⟨h0, .inr ⟨g, cap, cur, rfl, h1, by rw [hb.block g (Array.getElem?_eq_some_iff.1 h2).1]; exact h2, h3⟩⟩
theorem zs_alloc {w : World} {base : Nat} {v : Value} {l : List Int} (h : zs w base v l) (o : Obj) : zs (w.alloc o) base v l := zs_under h ((Below.refl _ w).alloc (Nat.le_refl _) o)
theorem zs_base {w : World} {b b' : Nat} {v : Value} {l : List Int} (h : zs w b v l) (hb : b' ≤ b) : zs w b' v l := by
  obtain ⟨h0, h | ⟨g, cap, cur, rfl, h1, h2⟩⟩ := h
  · exact ⟨h0, .inl h⟩
  · exact ⟨h0, .inr ⟨g, cap, cur, rfl, Nat.le_trans hb h1, h2⟩⟩
/-- the digits of a text, the least significant one first -/
def digZ (l : List UInt8) : List Int := l.reverse.map fun b => (b.toNat : Int)
theorem digZ_drop {l : List UInt8} {k : Nat} (hk : k < l.length) : digZ (l.drop k) = digZ (l.drop (k + 1)) ++ [(l[k].toNat : Int)] := by
  unfold digZ
  rw [List.drop_eq_getElem_cons hk, List.reverse_cons, List.map_append]
  rfl
def DigPost (w : World) (s : ByteArray) (e : Ending) (w' : World) : Prop := ∃ v, e = .returned v ∧ zs w' w.heap.size v (digZ s.data.toList) ∧ Below w.heap.size w w'
set_option maxRecDepth 100000 in
set_option maxHeartbeats 1000000 in
theorem rdigits_any (s : ByteArray) (hs : s.size ≤ 1000) (w : World) : Calls Tryz.prog 74 #[.string s] w (DigPost w s) := by
  have hpure : ∀ w : World, (pure #[] : Sem (Array Value)).run Tryz.prog w = .ok #[] w := fun _ => rfl
  have hst0 : ∀ (a : Addr) (w : World), (storeCells a []).run Tryz.prog w = .ok () w := fun _ _ => rfl
  obtain ⟨i0, hi, hz0, hz1, hz2⟩ := info_parts info_int
  have HL : Hid (s.data.toList.length = s.size) := rfl
  go_enter Tryz.func74, Tryz.ntmps74
  go_wp2_with (fail)
  go_loopw [3, 4] (fun b i wr => ∃ k : Nat, k ≤ s.size ∧ i = .int .i64 ((k : Int) - 1) ∧ Hid (zs wr w.heap.size b (digZ (s.data.toList.drop k))) ∧ Hid (Below w.heap.size w wr)) (fun _ i _ => (intOf i + 1).toNat)
  case atStart => exact ⟨s.size, Nat.le_refl _, rfl, by rw [← HL.out, List.drop_length]; exact zs_new w _ (Nat.le_refl _), (Below.refl _ w).alloc (Nat.le_refl _) _⟩
  case round =>
    obtain ⟨k, hk, rfl, HB, HW⟩ := hrel
    cases k with
    | zero =>
      go_wp2
      go_ret
      exact ⟨_, rfl, HB.out, HW.out⟩
    | succ k =>
      rw [show ((k + 1 : Nat) : Int) - 1 = (k : Int) by omega]
      have hks : k < s.size := by omega
      have HD : Hid (digZ (s.data.toList.drop k) = digZ (s.data.toList.drop (k + 1)) ++ [(s[k].toNat : Int)]) := digZ_drop hks
      have hwr : wrap64 (s[k].toNat : Int) = (s[k].toNat : Int) := Go.IntWalk.wrap64_in _ (by have := (s[k]).toNat_lt; omega)
      have hln : (digZ (s.data.toList.drop (k + 1))).length ≤ 1000 := by simp [digZ]; omega
      generalize digZ (s.data.toList.drop (k + 1)) = l at *
      obtain ⟨ab, cp, hba, hbn⟩ := zs_form HB.out
      subst hba
      have hb3 := HB.out
      have hsz3 := HW.out.size
      go_wp2_with (at_builtin; refine wpList_append_own _ rfl _ _ 23 rfl w.heap.size 3 i0 (.int .i64 0) 1 8 Tryz.underlying23 hi hz0 hz1 hz2 rfl (by decide) _ _ _ rfl (zs_alloc hb3 _) ⟨wr.heap.size, 0, none⟩ 1 1 [_] rfl rfl (one_cell _ _ _) (one_one _ rfl) (by unfold maxLen; omega) (by omega) (by simp; omega) ?_; intro v' w1 hown' hgrow _; clear hb3)
      have hB2 : Below w.heap.size w w1 := Below.grown (HW.out.alloc hsz3 _) hgrow (by simp; omega) (fun q hq => (World.ownsRow.lt HB.out q hq).1)
      exact ⟨⟨k, by omega, rfl, by rw [HD.out]; exact zs_app hown', hB2⟩, by simp [intOf]⟩
theorem zs_cell {w : World} {base g o c n : Nat} {l : List Int} (h : zs w base (.slice (some ⟨g, o, none⟩) n c) l) (j : Nat) (hj : j < l.length) : w.cell? ⟨g, o + j, none⟩ = some (.int .i64 (l.getD j 0)) ∧ o = 0 ∧ n = l.length := by
  obtain ⟨h0, h | ⟨g', cap, cur, e, h1, h2, h3, h4, h5, h6⟩⟩ := h
  · cases h.1
  · cases e
    refine ⟨?_, rfl, rfl⟩
    have hh : w.ownsRow base 3 1 (.slice (some ⟨g, 0, none⟩) l.length c) l.length (l.map ZI) := ⟨h0, .inr ⟨g, c, cur, rfl, h1, h2, h3, h4, h5, h6⟩⟩
    rw [Nat.zero_add, World.ownsRow.cellAt hh j (by omega)]
    simp [hj, ZI]
set_option maxHeartbeats 400000 in
/-- a digit; 0 behind the last one -/
theorem rat_any (v : Value) (l : List Int) (k base : Nat) (w : World) (h : zs w base v l) (hl : l.length ≤ 1000) (hk : k ≤ 1000) : Calls Tryz.prog 103 #[v, .int .i64 (k : Int)] w fun e w' => e = .returned (.int .i64 (l.getD k 0)) ∧ w' = w := by
  obtain ⟨a, c, rfl, hn⟩ := zs_form h
  by_cases hkl : k < l.length
  · obtain ⟨⟨g, o⟩, rfl⟩ : ∃ p : Nat × Nat, a = some ⟨p.1, p.2, none⟩ := by
      obtain ⟨_, h | ⟨g', cap, cur, e, _⟩⟩ := h
      · have h1 := h.2; omega
      · injection e with e1; exact ⟨⟨g', 0⟩, e1⟩
    obtain ⟨hc, rfl, _⟩ := zs_cell h k hkl
    have H := Lib.hid h
    have hki : (k : Int) < (l.length : Int) := by omega
    generalize l.length = n at *
    generalize l.getD k 0 = d at *
    rw [Nat.zero_add] at hc
    clear h hn
    go_enter Tryz.func103, Tryz.ntmps103
    go_wp2
    go_ret
    exact ⟨rfl, rfl⟩
  · have hd : l.getD k 0 = 0 := by rw [List.getD_eq_getElem?_getD, List.getElem?_eq_none (by omega)]; rfl
    rw [hd]
    have hki : ¬ (k : Int) < (l.length : Int) := by omega
    generalize l.length = n at *
    clear h hn hd
    go_enter Tryz.func103, Tryz.ntmps103
    go_wp2
    go_ret
    exact ⟨rfl, rfl⟩
end Go.Proofs.YteggbpaljmopoaaGreat
/- backflushref06: carry and number in plain terms. -/
namespace Go.Proofs.YteggbpaljmopoaaGreat
open Go.RowKit BF

/-- the value of digits, the least significant one first -/
def valZ : List Int → Int
  | [] => 0
  | d :: l => d + 256 * valZ l
def digs8 (l : List Int) : Prop := ∀ d ∈ l, 0 ≤ d ∧ d < 256
theorem valZ_append (a b : List Int) : valZ (a ++ b) = valZ a + 256 ^ a.length * valZ b := by
  induction a with
  | nil => simp [valZ]
  | cons d l ih =>
    simp only [List.cons_append, valZ, ih, List.length_cons, Int.pow_succ]
    rw [Int.mul_add, ← Int.mul_assoc, Int.mul_comm 256 (256 ^ l.length), Int.add_assoc]
theorem valZ_snoc (l : List Int) (d : Int) : valZ (l ++ [d]) = valZ l + 256 ^ l.length * d := by
  rw [valZ_append]; simp [valZ]
theorem digs8_snoc {l : List Int} (h : digs8 l) {d : Int} (h0 : 0 ≤ d) (h1 : d < 256) : digs8 (l ++ [d]) := by
  intro x hx
  rcases List.mem_append.1 hx with hx | hx
  · exact h x hx
  · simp at hx; subst hx; exact ⟨h0, h1⟩
theorem pow_pos256 (n : Nat) : (0 : Int) < 256 ^ n := Int.pow_pos (by decide)
theorem valZ_lt {l : List Int} (h : digs8 l) : 0 ≤ valZ l ∧ valZ l < 256 ^ l.length := by
  induction l with
  | nil => simp [valZ]
  | cons d l ih =>
    have h1 := h d (by simp)
    have h2 := ih fun x hx => h x (by simp [hx])
    simp only [valZ, List.length_cons, Int.pow_succ]
    omega
/-- carrying, behind some rounds: what is laid out, what is over -/
structure CarryRel (l out : List Int) (over : Int) (i : Nat) : Prop where
  len : out.length = i
  digs : digs8 out
  low : -1 ≤ over
  val : valZ (l.take i) = valZ out + 256 ^ i * over
theorem carry_start (l : List Int) : CarryRel l [] 0 0 := ⟨rfl, fun d hd => by simp at hd, by decide, by simp [valZ]⟩
theorem valZ_take_succ (l : List Int) (i : Nat) : valZ (l.take (i + 1)) = valZ (l.take i) + 256 ^ i * l.getD i 0 := by
  by_cases h : i < l.length
  · rw [List.take_succ_eq_append_getElem h, valZ_snoc, List.length_take_of_le (Nat.le_of_lt h)]
    simp [h]
  · rw [List.take_of_length_le (by omega), List.take_of_length_le (by omega), List.getD_eq_getElem?_getD, List.getElem?_eq_none (by omega)]
    simp
theorem carry_step {l out : List Int} {over : Int} {i : Nat} (h : CarryRel l out over i) (d e : Int) (he : over + l.getD i 0 = e + 256 * d) (h0 : 0 ≤ e) (h1 : e < 256) (hd : -1 ≤ d) : CarryRel l (out ++ [e]) d (i + 1) := by
  refine ⟨by simp [h.len], digs8_snoc h.digs h0 h1, hd, ?_⟩
  rw [valZ_take_succ, h.val, valZ_snoc, h.len, Int.pow_succ]
  have e1 : (256 : Int) ^ i * 256 * d = 256 ^ i * (256 * d) := Int.mul_assoc _ _ _
  rw [e1, Int.add_assoc, Int.add_assoc, ← Int.mul_add, ← Int.mul_add, he]
theorem carry_end {l out : List Int} {over : Int} {i : Nat} (h : CarryRel l out over i) (hi : l.length ≤ i) (ho : over ≤ 0) (hv : 0 ≤ valZ l) : digs8 out ∧ valZ out = valZ l := by
  refine ⟨h.digs, ?_⟩
  have hval := h.val
  rw [List.take_of_length_le hi] at hval
  have h1 := (valZ_lt h.digs).2
  rw [h.len] at h1
  have h2 := pow_pos256 i
  have h3 := h.low
  rcases (by omega : over = 0 ∨ over = -1) with rfl | rfl
  · simpa using hval.symm
  · exfalso; omega
theorem carry_more {l out : List Int} {over : Int} {i N : Nat} (h : CarryRel l out over i) (hi : l.length ≤ i) (ho : 0 < over) (hN : valZ l < 256 ^ N) : i < N := by
  have hval := h.val
  rw [List.take_of_length_le hi] at hval
  have h1 := (valZ_lt h.digs).1
  have h2 := pow_pos256 i
  rcases Nat.lt_or_ge i N with h3 | h3
  · exact h3
  · exfalso
    have h4 : (256 : Int) ^ N ≤ 256 ^ i := by
      obtain ⟨c, rfl⟩ := Nat.exists_eq_add_of_le h3
      have h6 := Int.mul_le_mul_of_nonneg_left (show (1 : Int) ≤ 256 ^ c from pow_pos256 c) (Int.le_of_lt (pow_pos256 N))
      rw [Int.mul_one, ← Int.pow_add] at h6
      exact h6
    have h5 : (256 : Int) ^ i * 1 ≤ 256 ^ i * over := Int.mul_le_mul_of_nonneg_left (by omega) (Int.le_of_lt h2)
    omega
end Go.Proofs.YteggbpaljmopoaaGreat
/- backflushref06: carry. -/
namespace Go.Proofs.YteggbpaljmopoaaGreat
open Go.RowKit BF

def CarryPost (w : World) (l : List Int) (N : Nat) (e : Ending) (w' : World) : Prop := ∃ v out, e = .returned v ∧ zs w' w.heap.size v out ∧ digs8 out ∧ valZ out = valZ l ∧ out.length ≤ N ∧ Below w.heap.size w w'
theorem getD_bound {l : List Int} {a b : Int} (h : ∀ d ∈ l, a ≤ d ∧ d ≤ b) {k : Nat} (hk : k < l.length) : a ≤ l.getD k 0 ∧ l.getD k 0 ≤ b := by
  have : l.getD k 0 = l[k] := by simp [hk]
  rw [this]
  exact h _ (List.getElem_mem hk)
set_option maxRecDepth 100000 in
set_option maxHeartbeats 2000000 in
theorem rcarry_any (v : Value) (l : List Int) (base N : Nat) (w : World) (h : zs w base v l) (hb : ∀ d ∈ l, -255 ≤ d ∧ d ≤ 100000000) (hN : l.length ≤ N) (hN1 : N ≤ 1000) (hv : 0 ≤ valZ l) (hT : valZ l < 256 ^ N) :
    Calls Tryz.prog 77 #[v] w (CarryPost w l N) := by
  have hpure : ∀ w : World, (pure #[] : Sem (Array Value)).run Tryz.prog w = .ok #[] w := fun _ => rfl
  have hst0 : ∀ (a : Addr) (w : World), (storeCells a []).run Tryz.prog w = .ok () w := fun _ _ => rfl
  obtain ⟨i0, hi, hz0, hz1, hz2⟩ := info_parts info_int
  obtain ⟨a, c, rfl, hn⟩ := zs_form h
  have HV := Lib.hid hv
  have HT := Lib.hid hT
  have HBd := Lib.hid hb
  have HZ := Lib.hid h
  obtain ⟨n, hln⟩ : ∃ n, l.length = n := ⟨_, rfl⟩
  have HL := Lib.hid hln
  rw [hln] at hN HZ ⊢
  clear hv hT hb h hn hln
  go_enter Tryz.func77, Tryz.ntmps77
  go_wp2_with (fail)
  go_loopw [3, 4, 5] (fun b o i wr => ∃ (k : Nat) (ov : Int) (out : List Int), k ≤ N ∧ i = .int .i64 (k : Int) ∧ o = .int .i64 ov ∧ Hid (zs wr w.heap.size b out) ∧ Hid (CarryRel l out ov k) ∧ -1 ≤ ov ∧ ov ≤ 1000000 ∧ Hid (Below w.heap.size w wr)) (fun _ _ i _ => N - (intOf i).toNat)
  case atStart => exact ⟨0, 0, [], Nat.zero_le _, rfl, rfl, zs_new w _ (Nat.le_refl _), carry_start l, by decide, by decide, (Below.refl _ w).alloc (Nat.le_refl _) _⟩
  case round =>
    obtain ⟨k, ov, out, hk, rfl, rfl, HO, HC, ho1, ho2, HW⟩ := hrel
    obtain ⟨ab, cp, hba, hbn⟩ := zs_form HO.out
    subst hba
    have hol : out.length = k := HC.out.len
    have hb3 := HO.out
    rw [hol] at hb3 ⊢
    have HK3 := Lib.hid hb3
    have hol2 : out.length ≤ 1000 := by omega
    clear hol
    have hsz3 := HW.out.size
    by_cases hkn : k < n
    · have hki : (k : Int) < (n : Int) := by omega
      have hbd := getD_bound HBd.out (k := k) (by rw [HL.out]; exact hkn)
      have HS : ∀ d e : Int, ov + l.getD k 0 = e + 256 * d → 0 ≤ e → e < 256 → -1 ≤ d → Hid (CarryRel l (out ++ [e]) d (k + 1)) := fun d e h1 h2 h3 h4 => carry_step HC.out d e h1 h2 h3 h4
      have HS := Lib.hid HS
      obtain ⟨g, o, ha⟩ : ∃ g o : Nat, a = some ⟨g, o, none⟩ := by
        obtain ⟨_, h | ⟨g', cap, cur, e, _⟩⟩ := HZ.out
        · have h1 := h.2; have h2 := HL.out; omega
        · injection e with e1; exact ⟨g', 0, e1⟩
      subst ha
      obtain ⟨hc, ho, -⟩ := zs_cell (zs_under HZ.out HW.out) k (by rw [HL.out]; exact hkn)
      subst ho
      rw [Nat.zero_add] at hc
      generalize l.getD k 0 = x at *
      by_cases hneg : ov + x < 0
      · obtain ⟨e, he⟩ := Int.eq_ofNat_of_zero_le (show 0 ≤ ov + x + 256 by omega)
        have HS1 := HS.out (-1) (e : Int) (by omega) (by omega) (by omega) (by omega)
        have hlt : ¬ ((e : Int) < 0) := by omega
        have hq : (e : Int) / 256 = 0 := by omega
        have hr : (e : Int) % 256 = (e : Int) := by omega
        have hkN : k + 1 ≤ N := by omega
        clear HS
        go_wp2_with (fail)
        refine wp_loop_rounds 2 ?_
        rw [rounds_succ]
        go_wp2_with (fail)
        rw [rounds_succ]
        go_wp2_with (at_builtin; refine wpList_append_own _ rfl _ _ 23 rfl w.heap.size 3 i0 (.int .i64 0) 1 8 Tryz.underlying23 hi hz0 hz1 hz2 rfl (by decide) _ _ _ rfl (zs_alloc hb3 _) ⟨wr.heap.size, 0, none⟩ 1 1 [_] rfl rfl (one_cell _ _ _) (one_one _ rfl) (by unfold maxLen; omega) (by omega) (by simp; omega) ?_; intro v' w1 hown' hgrow _; clear hb3)
        have hB2 : Below w.heap.size w w1 := Below.grown (HW.out.alloc hsz3 _) hgrow (by simp; omega) (fun q hq => (World.ownsRow.lt HK3.out q hq).1)
        exact ⟨⟨k + 1, -1, _, hkN, by go_num, rfl, zs_app hown', HS1, by decide, by decide, hB2⟩, by simp [intOf]; omega⟩
      · obtain ⟨e, he⟩ := Int.eq_ofNat_of_zero_le (show 0 ≤ ov + x by omega)
        have HS1 := HS.out ((e : Int) / 256) ((e : Int) % 256) (by omega) (by omega) (by omega) (by omega)
        have hlt : ¬ ((e : Int) < 0) := by omega
        have hkN : k + 1 ≤ N := by omega
        have hq0 : -1 ≤ (e : Int) / 256 := by omega
        have hq1 : (e : Int) / 256 ≤ 1000000 := by omega
        clear HS
        go_wp2_with (fail)
        refine wp_loop_rounds 1 ?_
        rw [rounds_succ]
        go_wp2_with (at_builtin; refine wpList_append_own _ rfl _ _ 23 rfl w.heap.size 3 i0 (.int .i64 0) 1 8 Tryz.underlying23 hi hz0 hz1 hz2 rfl (by decide) _ _ _ rfl (zs_alloc hb3 _) ⟨wr.heap.size, 0, none⟩ 1 1 [_] rfl rfl (one_cell _ _ _) (one_one _ rfl) (by unfold maxLen; omega) (by omega) (by simp; omega) ?_; intro v' w1 hown' hgrow _; clear hb3)
        have hB2 : Below w.heap.size w w1 := Below.grown (HW.out.alloc hsz3 _) hgrow (by simp; omega) (fun q hq => (World.ownsRow.lt HK3.out q hq).1)
        exact ⟨⟨k + 1, (e : Int) / 256, _, hkN, by go_num, by go_num, zs_app hown', HS1, hq0, hq1, hB2⟩, by simp [intOf]; omega⟩
    · have hki : ¬ (k : Int) < (n : Int) := by omega
      have hgd : l.getD k 0 = 0 := by rw [List.getD_eq_getElem?_getD, List.getElem?_eq_none (by rw [HL.out]; omega)]; rfl
      by_cases hov : 0 < ov
      · obtain ⟨e, rfl⟩ := Int.eq_ofNat_of_zero_le (show 0 ≤ ov by omega)
        have hkN : k + 1 ≤ N := carry_more HC.out (by rw [HL.out]; omega) hov HT.out
        have HS1 : Hid (CarryRel l (out ++ [(e : Int) % 256]) ((e : Int) / 256) (k + 1)) := carry_step HC.out _ _ (by rw [hgd]; omega) (by omega) (by omega) (by omega)
        have hlt : ¬ ((e : Int) < 0) := by omega
        have hq0 : -1 ≤ (e : Int) / 256 := by omega
        have hq1 : (e : Int) / 256 ≤ 1000000 := by omega
        clear hgd
        go_wp2_with (fail)
        refine wp_loop_rounds 1 ?_
        rw [rounds_succ]
        go_wp2_with (at_builtin; refine wpList_append_own _ rfl _ _ 23 rfl w.heap.size 3 i0 (.int .i64 0) 1 8 Tryz.underlying23 hi hz0 hz1 hz2 rfl (by decide) _ _ _ rfl (zs_alloc hb3 _) ⟨wr.heap.size, 0, none⟩ 1 1 [_] rfl rfl (one_cell _ _ _) (one_one _ rfl) (by unfold maxLen; omega) (by omega) (by simp; omega) ?_; intro v' w1 hown' hgrow _; clear hb3)
        have hB2 : Below w.heap.size w w1 := Below.grown (HW.out.alloc hsz3 _) hgrow (by simp; omega) (fun q hq => (World.ownsRow.lt HK3.out q hq).1)
        exact ⟨⟨k + 1, (e : Int) / 256, _, hkN, by go_num, by go_num, zs_app hown', HS1, hq0, hq1, hB2⟩, by simp [intOf]; omega⟩
      · obtain ⟨h1, h2⟩ := carry_end HC.out (by rw [HL.out]; omega) (by omega) HV.out
        have H1 := Lib.hid h1
        have H2 := Lib.hid h2
        have HLen := Lib.hid HC.out.len
        clear h1 h2 hgd
        go_wp2_with (fail)
        go_ret
        exact ⟨_, _, rfl, hb3, H1.out, H2.out, by rw [HLen.out]; exact hk, HW.out⟩
end Go.Proofs.YteggbpaljmopoaaGreat
/- backflushref06: number. -/
namespace Go.Proofs.YteggbpaljmopoaaGreat
open Go.RowKit BF

/-- the bytes of digits, the most significant one first -/
def bytesZ (l : List Int) : List UInt8 := l.reverse.map fun d => UInt8.ofNat d.toNat
theorem digs8_take {l : List Int} (h : digs8 l) (k : Nat) : digs8 (l.take k) := fun d hd => h d (List.mem_of_mem_take hd)
theorem dec_bytesZ {l : List Int} (h : digs8 l) : (dec (bytesZ l) : Int) = valZ l := by
  induction l with
  | nil => simp [bytesZ, valZ, dec]
  | cons d l ih =>
    have h1 := h d (by simp)
    have h2 := ih fun x hx => h x (by simp [hx])
    have e : bytesZ (d :: l) = bytesZ l ++ [UInt8.ofNat d.toNat] := by simp [bytesZ]
    rw [e, dec_snoc]
    have h3 : (UInt8.ofNat d.toNat).toNat = d.toNat := by
      rw [UInt8.toNat_ofNat']
      exact Nat.mod_eq_of_lt (by omega)
    rw [h3, valZ, ← h2]
    omega
theorem valZ_nonneg {l : List Int} (h : digs8 l) : 0 ≤ valZ l := (valZ_lt h).1
theorem bytesZ_enc {l : List Int} (h : digs8 l) (hn : natural (bytesZ l) = true) : bytesZ l = enc (valZ l).toNat := by
  rw [← dec_bytesZ h, Int.toNat_natCast, enc_dec _ hn]
theorem bytesZ_snoc (l : List Int) (d : Int) : bytesZ (l ++ [d]) = UInt8.ofNat d.toNat :: bytesZ l := by simp [bytesZ]
theorem natural_bytesZ {l : List Int} (h : digs8 l) {k : Nat} (hk : k ≤ l.length) (hz : k = 0 ∨ l.getD (k - 1) 0 ≠ 0) : natural (bytesZ (l.take k)) = true := by
  rcases k with _ | k
  · rfl
  · have hd : l.getD k 0 = l[k] := by simp [show k < l.length by omega]
    rw [List.take_succ_eq_append_getElem (by omega), bytesZ_snoc]
    have h1 := h l[k] (List.getElem_mem _)
    have h2 : l[k] ≠ 0 := by
      rcases hz with hz | hz
      · omega
      · rwa [Nat.add_sub_cancel, hd] at hz
    have h3 : (UInt8.ofNat (l[k]).toNat).toNat = (l[k]).toNat := by
      rw [UInt8.toNat_ofNat']
      exact Nat.mod_eq_of_lt (by omega)
    show ((some (UInt8.ofNat (l[k]).toNat)) != some 0) = true
    have h4 : UInt8.ofNat (l[k]).toNat ≠ 0 := by
      intro h4
      have := congrArg UInt8.toNat h4
      rw [h3] at this
      have h5 : (0 : UInt8).toNat = 0 := rfl
      omega
    simpa using h4
/-- zeros at the end do not count -/
theorem valZ_trim {l : List Int} {k : Nat} (hz : ∀ j, k ≤ j → l.getD j 0 = 0) : valZ (l.take k) = valZ l := by
  have h : ∀ m, valZ (l.take (k + m)) = valZ (l.take k) := by
    intro m
    induction m with
    | zero => rfl
    | succ m ih => rw [← Nat.add_assoc, valZ_take_succ, ih, hz _ (by omega)]; simp
  have := h l.length
  rw [List.take_of_length_le (by omega)] at this
  exact this.symm
theorem bytesZ_len (l : List Int) : (bytesZ l).length = l.length := by simp [bytesZ]
theorem bytesZ_cons (d : Int) (l : List Int) : bytesZ (d :: l) = bytesZ l ++ [UInt8.ofNat d.toNat] := by simp [bytesZ]
theorem bytesZ_drop {l : List Int} {m : Nat} (hm : m < l.length) : bytesZ (l.drop m) = bytesZ (l.drop (m + 1)) ++ [UInt8.ofNat (l.getD m 0).toNat] := by
  rw [List.drop_eq_getElem_cons hm, bytesZ_cons]
  simp [hm]
theorem getD_take {l : List Int} {k m : Nat} (hm : m < k) : (l.take k).getD m 0 = l.getD m 0 := by
  simp [hm]
/-- what number returns -/
theorem number_eq {l : List Int} (h : digs8 l) {k : Nat} (hk : k ≤ l.length) (hz : ∀ j, k ≤ j → l.getD j 0 = 0) (hz1 : k = 0 ∨ l.getD (k - 1) 0 ≠ 0) : bytesZ (l.take k) = enc (valZ l).toNat := by
  rw [bytesZ_enc (digs8_take h k) (natural_bytesZ h hk hz1), valZ_trim hz]
theorem zs_ptr {w : World} {base n c : Nat} {a : Option Addr} {l : List Int} (h : zs w base (.slice a n c) l) (hn : 0 < n) : ∃ g, a = some ⟨g, 0, none⟩ := by
  obtain ⟨h0, h | ⟨g', cap, cur, e, _⟩⟩ := h
  · have h1 := h.2
    obtain ⟨h2, _⟩ := h
    cases h2
    omega
  · injection e with e1; exact ⟨g', e1⟩
theorem u8s_new (w : World) (base : Nat) (h : base ≤ w.heap.size) : u8s (w.alloc (.cells #[] 5)) base (.slice (some ⟨w.heap.size, 0, none⟩) 0 0) [] :=
  ⟨rfl, .inr ⟨w.heap.size, 0, #[], rfl, h, (MapKept.heap_alloc w _).1, Nat.le_refl _, by decide, rfl, rfl⟩⟩
set_option maxRecDepth 100000 in
set_option maxHeartbeats 2000000 in
theorem rnumber_any (v : Value) (l : List Int) (base : Nat) (w : World) (h : zs w base v l) (hd : digs8 l) (hl : l.length ≤ 1000) :
    Calls Tryz.prog 76 #[v] w fun e w' => e = .returned (.string (str (enc (valZ l).toNat))) ∧ Below w.heap.size w w' := by
  have hpure : ∀ w : World, (pure #[] : Sem (Array Value)).run Tryz.prog w = .ok #[] w := fun _ => rfl
  have hst0 : ∀ (a : Addr) (w : World), (storeCells a []).run Tryz.prog w = .ok () w := fun _ _ => rfl
  obtain ⟨i0, hi, hz0, hz1, hz2⟩ := info_parts info5
  obtain ⟨a, c, rfl, hn⟩ := zs_form h
  have HZ := Lib.hid h
  have HD := Lib.hid hd
  obtain ⟨n, hln⟩ : ∃ n, l.length = n := ⟨_, rfl⟩
  have HL := Lib.hid hln
  rw [hln] at hl HZ ⊢
  clear h hd hn hln
  go_enter Tryz.func76, Tryz.ntmps76
  go_wp2_with (fail)
  go_loopw [3] (fun m wr => ∃ k : Nat, k ≤ n ∧ m = .int .i64 (k : Int) ∧ Hid (∀ j, k ≤ j → l.getD j 0 = 0) ∧ ∃ q, wr = w.drewN q) (fun m _ => (intOf m).toNat)
  case atStart => exact ⟨n, Nat.le_refl _, rfl, fun j hj => by rw [List.getD_eq_getElem?_getD, List.getElem?_eq_none (by rw [HL.out]; exact hj)]; rfl, 0, rfl⟩
  case round =>
    obtain ⟨k, hk, rfl, HK, q, rfl⟩ := hrel
    have HBQ : Below w.heap.size w (w.drewN q) := below_drewN' (Below.refl _ w) q
    have HP : k = 0 ∨ l.getD (k - 1) 0 ≠ 0 → Hid (bytesZ (l.take k) = enc (valZ l).toNat) := fun h => number_eq HD.out (by rw [HL.out]; exact hk) HK.out h
    have HP := Lib.hid HP
    by_cases hgo : 0 < k ∧ l.getD (k - 1) 0 = 0
    · obtain ⟨hk0, hz⟩ := hgo
      obtain ⟨m, rfl⟩ : ∃ m, k = m + 1 := ⟨k - 1, by omega⟩
      rw [Nat.add_sub_cancel] at hz
      obtain ⟨g, rfl⟩ := zs_ptr HZ.out (by omega)
      obtain ⟨hc, -, -⟩ := zs_cell HZ.out m (by rw [HL.out]; omega)
      rw [Nat.zero_add, hz] at hc
      have HK2 : Hid (∀ j, m ≤ j → l.getD j 0 = 0) := fun j hj => by
        rcases Nat.eq_or_lt_of_le hj with h | h
        · rw [← h]; exact hz
        · exact HK.out j h
      clear hz HP
      have hm1 : ((m + 1 : Nat) : Int) - 1 = (m : Int) := by omega
      have hm2 : (0 : Int) < ((m + 1 : Nat) : Int) := by omega
      go_wp2
      exact ⟨⟨m, by omega, rfl, HK2, q, rfl⟩, by simp [intOf]; try omega⟩
    · have HQ := HP.out (by omega)
      clear HP HK
      rcases Nat.eq_zero_or_pos k with hk0 | hk0
      · have hki : ¬ (0 : Int) < (k : Int) := by omega
        clear hgo
        go_wp2_with (fail)
        go_loopw [4, 5] (fun b i wr => ∃ m : Nat, m ≤ k ∧ i = .int .i64 ((m : Int) - 1) ∧ Hid (u8s wr w.heap.size b (bytesZ ((l.take k).drop m))) ∧ Hid (Below w.heap.size w wr)) (fun _ i _ => (intOf i + 1).toNat)
        case atStart => exact ⟨k, Nat.le_refl _, by first | rfl | (congr 1; omega), by rw [List.drop_of_length_le (by simp; omega)]; exact u8s_new _ _ HBQ.size, HBQ.alloc HBQ.size _⟩
        case round =>
          obtain ⟨m, hm, rfl, HB, HW⟩ := hrel
          cases m with
          | zero =>
            have hcv := u8s_string HB.out
            rw [List.drop_zero, HQ.out] at hcv
            go_wp2
            go_ret
            exact ⟨rfl, HW.out⟩
          | succ m => exact absurd hm (by omega)
      · obtain ⟨p, hp⟩ : ∃ p, k = p + 1 := ⟨k - 1, by omega⟩
        have hm1 : (k : Int) - 1 = (p : Int) := by omega
        have hm2 : (0 : Int) < (k : Int) := by omega
        have hxb : (l.getD p 0 == 0) = false := by
          have : ¬ l.getD (k - 1) 0 = 0 := fun h => hgo ⟨by omega, h⟩
          rw [show k - 1 = p by omega] at this
          simpa using this
        obtain ⟨g, rfl⟩ := zs_ptr HZ.out (by omega)
        obtain ⟨hc, -, -⟩ := zs_cell HZ.out p (by rw [HL.out]; omega)
        rw [Nat.zero_add] at hc
        obtain ⟨x, hx⟩ : ∃ x, l.getD p 0 = x := ⟨_, rfl⟩
        rw [hx] at hc hxb
        have hpk : p < k := by omega
        clear hx hgo hp
        go_wp2_with (fail)
        clear hc hxb
        go_loopw [4, 5] (fun b i wr => ∃ m : Nat, m ≤ k ∧ i = .int .i64 ((m : Int) - 1) ∧ Hid (u8s wr w.heap.size b (bytesZ ((l.take k).drop m))) ∧ Hid (Below w.heap.size w wr)) (fun _ i _ => (intOf i + 1).toNat)
        case atStart => exact ⟨k, Nat.le_refl _, by first | rfl | (congr 1; omega), by rw [List.drop_of_length_le (by simp; omega)]; exact u8s_new _ _ HBQ.size, HBQ.alloc HBQ.size _⟩
        case round =>
          obtain ⟨m, hm, rfl, HB, HW⟩ := hrel
          cases m with
          | zero =>
            have hcv := u8s_string HB.out
            rw [List.drop_zero, HQ.out] at hcv
            go_wp2
            go_ret
            exact ⟨rfl, HW.out⟩
          | succ m =>
            rw [show ((m + 1 : Nat) : Int) - 1 = (m : Int) by omega]
            obtain ⟨hc, -, -⟩ := zs_cell (zs_under HZ.out HW.out) m (by rw [HL.out]; omega)
            rw [Nat.zero_add] at hc
            have hd := HD.out (l.getD m 0) (by rw [List.getD_eq_getElem?_getD, List.getElem?_eq_getElem (by rw [HL.out]; omega)]; exact List.getElem_mem _)
            have hb := bytesZ_drop (l := l.take k) (m := m) (by simp; have := HL.out; omega)
            rw [getD_take (by omega)] at hb
            obtain ⟨e, he⟩ := Int.eq_ofNat_of_zero_le hd.1
            rw [he] at hc hb hd
            have hd2 : e < 256 := by omega
            rw [Int.toNat_natCast] at hb
            have HS := Lib.hid hb
            have hsl : (bytesZ ((l.take k).drop (m + 1))).length ≤ 1000 := by rw [bytesZ_len]; simp; omega
            clear he hb hd
            generalize bytesZ ((l.take k).drop (m + 1)) = s at *
            obtain ⟨ab, cp, hba, hbn⟩ := u8s_form HB.out
            subst hba
            have hb3 := HB.out
            have hsz3 := HW.out.size
            go_wp2_with (at_builtin; refine wpList_append_own _ rfl _ _ 149 rfl w.heap.size 5 i0 (.int .u8 0) 1 1 Tryz.underlying149 hi hz0 hz1 hz2 rfl (by decide) _ _ _ rfl (hb3.alloc _) ⟨wr.heap.size, 0, none⟩ 1 1 [_] rfl rfl (one_cell _ _ _) (one_one _ rfl) (by unfold maxLen; omega) (by omega) (by simp; omega) ?_; intro v' w1 hown' hgrow _; clear hb3)
            have hB2 : Below w.heap.size w w1 := Below.grown (HW.out.alloc hsz3 _) hgrow (by simp; omega) (fun q hq => (World.ownsRow.lt HB.out q hq).1)
            exact ⟨⟨m, by omega, rfl, by rw [HS.out]; exact u8s_app hown' (by omega) hd2, hB2⟩, by simp [intOf]⟩
end Go.Proofs.YteggbpaljmopoaaGreat
/- backflushref06: minus, Add. PRINTED BY wip/gen_ref06.py -/
namespace Go.Proofs.YteggbpaljmopoaaGreat
open Go.RowKit BF

theorem bytesZ_digZ (l : List UInt8) : bytesZ (digZ l) = l := by
  unfold bytesZ digZ
  rw [← List.map_reverse, List.reverse_reverse, List.map_map]
  conv => rhs; rw [← List.map_id l]
  apply List.map_congr_left
  intro a _
  simp
theorem digs8_digZ (l : List UInt8) : digs8 (digZ l) := by
  intro d hd
  unfold digZ at hd
  obtain ⟨b, -, rfl⟩ := List.mem_map.1 hd
  have := b.toNat_lt
  omega
theorem valZ_digZ (l : List UInt8) : valZ (digZ l) = (dec l : Int) := by
  rw [← dec_bytesZ (digs8_digZ l), bytesZ_digZ]
theorem digZ_len (l : List UInt8) : (digZ l).length = l.length := by simp [digZ]
theorem digs8_getD {l : List Int} (h : digs8 l) (k : Nat) : 0 ≤ l.getD k 0 ∧ l.getD k 0 < 256 := by
  by_cases hk : k < l.length
  · have : l.getD k 0 = l[k] := by simp [hk]
    rw [this]
    exact h _ (List.getElem_mem hk)
  · rw [List.getD_eq_getElem?_getD, List.getElem?_eq_none (by omega)]
    exact ⟨by decide, by decide⟩
/-- digits of two rows put together, place by place -/
structure ComRel (s : Int) (x y l : List Int) (k : Nat) : Prop where
  len : l.length = k
  bound : ∀ d ∈ l, -255 ≤ d ∧ d ≤ 100000000
  val : valZ l = valZ (x.take k) + s * valZ (y.take k)
theorem com_start (s : Int) (x y : List Int) : ComRel s x y [] 0 := ⟨rfl, fun d hd => by simp at hd, by simp [valZ]⟩
theorem com_step {s : Int} {x y l : List Int} {k : Nat} (h : ComRel s x y l k) (d : Int) (hd : d = x.getD k 0 + s * y.getD k 0) (h1 : -255 ≤ d) (h2 : d ≤ 100000000) : ComRel s x y (l ++ [d]) (k + 1) := by
  refine ⟨by simp [h.len], ?_, ?_⟩
  · intro e he
    rcases List.mem_append.1 he with he | he
    · exact h.bound e he
    · simp at he; subst he; exact ⟨h1, h2⟩
  · rw [valZ_snoc, h.val, h.len, valZ_take_succ, valZ_take_succ, hd, Int.mul_add, Int.mul_add]
    have e : s * ((256 : Int) ^ k * y.getD k 0) = 256 ^ k * (s * y.getD k 0) := Int.mul_left_comm _ _ _
    rw [e]
    generalize (256 : Int) ^ k * x.getD k 0 = p
    generalize (256 : Int) ^ k * (s * y.getD k 0) = q
    generalize s * valZ (y.take k) = r
    omega
theorem com_end {s : Int} {x y l : List Int} {k : Nat} (h : ComRel s x y l k) (hx : x.length ≤ k) (hy : y.length ≤ k) : valZ l = valZ x + s * valZ y := by
  rw [h.val, List.take_of_length_le hx, List.take_of_length_le hy]
theorem val_lt_pow (a : ByteArray) : (val a : Int) < 256 ^ a.size := by
  have h := (valZ_lt (digs8_digZ a.data.toList)).2
  rw [valZ_digZ, digZ_len] at h
  exact h
theorem pow256_mono {a b : Nat} (h : a ≤ b) : (256 : Int) ^ a ≤ 256 ^ b := by
  obtain ⟨c, rfl⟩ := Nat.exists_eq_add_of_le h
  have h6 := Int.mul_le_mul_of_nonneg_left (show (1 : Int) ≤ 256 ^ c from pow_pos256 c) (Int.le_of_lt (pow_pos256 a))
  rw [Int.mul_one, ← Int.pow_add] at h6
  exact h6
set_option maxRecDepth 100000 in
set_option maxHeartbeats 2000000 in
theorem rminus_any (a b : ByteArray) (ha : a.size ≤ 1000) (hb : b.size ≤ a.size) (hle : val b ≤ val a) (w : World) :
    Calls Tryz.prog 102 #[.string a, .string b] w fun e w' => e = .returned (.string (nat (val a - val b))) ∧ Below w.heap.size w w' := by
  have hpure : ∀ w : World, (pure #[] : Sem (Array Value)).run Tryz.prog w = .ok #[] w := fun _ => rfl
  have hst0 : ∀ (a : Addr) (w : World), (storeCells a []).run Tryz.prog w = .ok () w := fun _ _ => rfl
  obtain ⟨i0, hi, hz0, hz1, hz2⟩ := info_parts info_int
  have HD1 := Lib.hid (fun w => rdigits_any a ha w)
  have HD2 := Lib.hid (fun w => rdigits_any b (Nat.le_trans hb ha) w)
  obtain ⟨X, hX⟩ : ∃ X, digZ a.data.toList = X := ⟨_, rfl⟩
  obtain ⟨Y, hY⟩ : ∃ Y, digZ b.data.toList = Y := ⟨_, rfl⟩
  have HXD : Hid (digs8 X) := by rw [← hX]; exact digs8_digZ _
  have HYD : Hid (digs8 Y) := by rw [← hY]; exact digs8_digZ _
  have HXV : Hid (valZ X = (val a : Int)) := by rw [← hX]; exact valZ_digZ _
  have HYV : Hid (valZ Y = (val b : Int)) := by rw [← hY]; exact valZ_digZ _
  obtain ⟨n, hn⟩ : ∃ n, a.size = n := ⟨_, rfl⟩
  obtain ⟨m, hm⟩ : ∃ m, b.size = m := ⟨_, rfl⟩
  have HXL : Hid (X.length = n) := by rw [← hX, ← hn]; exact digZ_len _
  have HYL : Hid (Y.length = m) := by rw [← hY, ← hm]; exact digZ_len _
  have HXN : Hid (X.length ≤ 1000) := by show _ ≤ _; rw [HXL.out]; omega
  have HYN : Hid (Y.length ≤ 1000) := by show _ ≤ _; rw [HYL.out]; omega
  have hpw := val_lt_pow a
  rw [hn] at hpw
  have HPW := Lib.hid hpw
  clear hpw
  unfold nat
  have HLE := Lib.hid hle
  have hva : ((val a : Int) - (val b : Int)).toNat = val a - val b := by omega
  have HVR := Lib.hid hva
  clear hva
  generalize val a - val b = r at *
  generalize val a = va at *
  generalize val b = vb at *
  clear hle
  unfold DigPost at HD1 HD2
  rw [hX] at HD1
  rw [hY] at HD2
  rw [hn] at ha hb
  rw [hm] at hb
  clear hX hY
  go_enter Tryz.func102, Tryz.ntmps102
  go_wp2_with (fail)
  refine (HD1.out _).mono ?_
  rintro e w1 ⟨vx, rfl, hx, hw1⟩
  have HX := Lib.hid hx
  have HW1 := Lib.hid hw1
  clear hx hw1
  obtain ⟨ax, cx, hvx, -⟩ := zs_form HX.out
  rw [HXL.out] at hvx
  subst hvx
  go_wp2_with (fail)
  refine (HD2.out _).mono ?_
  rintro e w2 ⟨vy, rfl, hy, hw2⟩
  have HY2 := Lib.hid hy
  have HW2 := Lib.hid hw2
  clear hy hw2
  obtain ⟨ay, cy, hvy, -⟩ := zs_form HY2.out
  rw [HYL.out] at hvy
  subst hvy
  have HX2 := Lib.hid (zs_under HX.out HW2.out)
  clear HX
  go_wp2_with (fail)
  go_loopw [7, 8] (fun l i wr => ∃ (k : Nat) (out : List Int), k ≤ n ∧ i = .int .i64 (k : Int) ∧ Hid (zs wr w2.heap.size l out) ∧ Hid (ComRel (-1) X Y out k) ∧ Hid (Below w2.heap.size w2 wr)) (fun _ i _ => n - (intOf i).toNat)
  case atStart => exact ⟨0, [], Nat.zero_le _, rfl, zs_new w2 _ (Nat.le_refl _), com_start _ _ _, (Below.refl _ w2).alloc (Nat.le_refl _) _⟩
  case round =>
    obtain ⟨k, out, hk, rfl, HO, HC, HW⟩ := hrel
    obtain ⟨ab, cp, hba, hbn⟩ := zs_form HO.out
    subst hba
    have hol : out.length = k := HC.out.len
    by_cases hkn : k < n
    · have hki : (k : Int) < (n : Int) := by omega
      have HA := Lib.hid (rat_any _ X k _ wr (zs_under HX2.out HW.out) HXN.out (by omega))
      have HB := Lib.hid (rat_any _ Y k _ wr (zs_under HY2.out HW.out) HYN.out (by omega))
      have hx := digs8_getD HXD.out k
      have hy := digs8_getD HYD.out k
      have HS : Hid (∀ d, d = X.getD k 0 + (-1) * Y.getD k 0 → -255 ≤ d → d ≤ 100000000 → Hid (ComRel (-1) X Y (out ++ [d]) (k + 1))) := fun d h1 h2 h3 => com_step HC.out d h1 h2 h3
      generalize X.getD k 0 = dx at *
      generalize Y.getD k 0 = dy at *
      have hx1 := hx.1
      have hx2 := hx.2
      have hy1 := hy.1
      have hy2 := hy.2
      have HS1 := HS.out (dx - dy) (by omega) (by omega) (by omega)
      clear hx hy HS
      have hb3 := HO.out
      rw [hol] at hb3 ⊢
      have HK3 := Lib.hid hb3
      have hol2 : out.length ≤ 1000 := by omega
      clear hol
      have hsz3 := HW.out.size
      go_wp2_with (fail)
      refine HA.out.mono ?_
      rintro e w3 ⟨rfl, rfl⟩
      go_wp2_with (fail)
      refine HB.out.mono ?_
      rintro e w4 ⟨rfl, rfl⟩
      go_wp2_with (at_builtin; refine wpList_append_own _ rfl _ _ 23 rfl w2.heap.size 3 i0 (.int .i64 0) 1 8 Tryz.underlying23 hi hz0 hz1 hz2 rfl (by decide) _ _ _ rfl (zs_alloc hb3 _) ⟨_, 0, none⟩ 1 1 [_] rfl rfl (one_cell _ _ _) (one_one _ rfl) (by unfold maxLen; omega) (by omega) (by simp; omega) ?_; intro v' w5 hown' hgrow _; clear hb3)
      have hB2 : Below w2.heap.size w2 w5 := Below.grown (HW.out.alloc hsz3 _) hgrow (by simp; omega) (fun q hq => (World.ownsRow.lt HK3.out q hq).1)
      exact ⟨⟨k + 1, _, by omega, by go_num, zs_app hown', HS1, hB2⟩, by simp [intOf]; omega⟩
    · obtain rfl : k = n := by omega
      have hv := com_end HC.out (by rw [HXL.out]; exact Nat.le_refl _) (by rw [HYL.out]; exact hb)
      rw [HXV.out, HYV.out] at hv
      have HCA := Lib.hid (rcarry_any _ out _ (k) wr HO.out HC.out.bound (by omega) (by omega) (by rw [hv]; have := HLE.out; omega) (by rw [hv]; have := HPW.out; omega))
      rw [hol] at HCA ⊢
      have HV := Lib.hid hv
      clear hv
      go_wp2_with (fail)
      refine HCA.out.mono ?_
      rintro e w3 ⟨v3, o3, rfl, hz3, hd3, hv3, hl3, hB3⟩
      have HNU := Lib.hid (rnumber_any v3 o3 _ w3 hz3 hd3 (by omega))
      rw [hv3, HV.out, show (va : Int) + -1 * (vb : Int) = (va : Int) - (vb : Int) by omega, HVR.out] at HNU
      have HB3 := Lib.hid hB3
      clear hz3 hd3 hv3 hl3 hB3
      go_wp2_with (fail)
      refine HNU.out.mono ?_
      rintro e w4 ⟨rfl, hB4⟩
      have HBA := Lib.hid ((HW1.out.trans (HW2.out.mono HW1.out.size)).trans ((HW.out.mono (Nat.le_trans HW1.out.size HW2.out.size)).trans ((HB3.out.trans (hB4.mono HB3.out.size)).mono (Nat.le_trans (Nat.le_trans HW1.out.size HW2.out.size) HW.out.size))))
      clear hB4
      go_wp2
      go_ret
      exact ⟨rfl, HBA.out⟩
end Go.Proofs.YteggbpaljmopoaaGreat
