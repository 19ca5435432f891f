/- The reference of layer 6: products, quotients and the rest. Conditions: those that each theorem states. -/
import Derived.Test.YteggbpaljmopoaaGreatRefA
import Derived.BigRegion
import Derived.OwnWalk
import Derived.Laws.Strings3
set_option linter.unusedVariables false
set_option linter.unusedSimpArgs false
/- backflushref06: Mul in plain terms. -/
namespace Go.Proofs.YteggbpaljmopoaaGreat
open Go.RowKit BF

theorem valZ_set {l : List Int} {j : Nat} (hj : j < l.length) (v : Int) : valZ (l.set j v) = valZ l + 256 ^ j * (v - l.getD j 0) := by
  induction l generalizing j with
  | nil => simp at hj
  | cons d l ih =>
    cases j with
    | zero => simp [valZ]; omega
    | succ j =>
      have h := ih (j := j) (by simpa using hj)
      rw [List.set_cons_succ, valZ, valZ, h, Int.pow_succ]
      have e : (d :: l).getD (j + 1) 0 = l.getD j 0 := by simp
      rw [e]
      have e2 : (256 : Int) ^ j * 256 * (v - l.getD j 0) = 256 * (256 ^ j * (v - l.getD j 0)) := by rw [Int.mul_comm (256 ^ j) 256, Int.mul_assoc]
      rw [e2]
      omega
/-- the digits of a product, behind some rounds -/
structure MulZ (x y l : List Int) (i k : Nat) : Prop where
  len : l.length = x.length + y.length
  low : ∀ j, 0 ≤ l.getD j 0
  high : ∀ j, l.getD j 0 ≤ ((i : Int) + 1) * 65025
  rest : ∀ j, i + k ≤ j → l.getD j 0 ≤ (i : Int) * 65025
  val : valZ l = valZ (x.take i) * valZ y + 256 ^ i * (x.getD i 0 * valZ (y.take k))
theorem getD_set (l : List Int) (j m : Nat) (v : Int) : (l.set j v).getD m 0 = if j = m ∧ j < l.length then v else l.getD m 0 := by
  simp only [List.getD_eq_getElem?_getD, List.getElem?_set]
  by_cases h : j = m
  · subst h
    by_cases h2 : j < l.length
    · simp [h2]
    · simp [h2]
  · simp [h]
theorem valZ_zeros (n : Nat) : valZ (List.replicate n 0) = 0 := by
  induction n with
  | zero => rfl
  | succ n ih => rw [List.replicate_succ, valZ, ih]; rfl
theorem mulZ_start (x y : List Int) : MulZ x y (List.replicate (x.length + y.length) 0) 0 0 := by
  have h : ∀ j, (List.replicate (x.length + y.length) (0 : Int)).getD j 0 = 0 := by
    intro j
    rw [List.getD_eq_getElem?_getD, List.getElem?_replicate]
    split <;> rfl
  exact ⟨by simp, fun j => by rw [h]; decide, fun j => by rw [h]; decide, fun j _ => by rw [h]; decide, by rw [valZ_zeros]; simp [valZ]⟩
theorem dig_mul {p q : Int} (hp : 0 ≤ p ∧ p < 256) (hq : 0 ≤ q ∧ q < 256) : 0 ≤ p * q ∧ p * q ≤ 65025 := by
  refine ⟨Int.mul_nonneg hp.1 hq.1, ?_⟩
  have h1 := Int.mul_le_mul (show p ≤ 255 by omega) (show q ≤ 255 by omega) hq.1 (by decide)
  omega
theorem mulZ_in {x y l : List Int} {i k : Nat} (h : MulZ x y l i k) (hx : digs8 x) (hy : digs8 y) (hi : i < x.length) (hk : k < y.length) :
    MulZ x y (l.set (i + k) (l.getD (i + k) 0 + x.getD i 0 * y.getD k 0)) i (k + 1) := by
  have hd := dig_mul (digs8_getD hx i) (digs8_getD hy k)
  have hlow := h.low (i + k)
  have hr := h.rest (i + k) (Nat.le_refl _)
  have hlen : i + k < l.length := by rw [h.len]; omega
  refine ⟨by rw [List.length_set]; exact h.len, fun j => ?_, fun j => ?_, fun j hj => ?_, ?_⟩
  · rw [getD_set]
    split
    · omega
    · exact h.low j
  · rw [getD_set]
    split
    · omega
    · exact h.high j
  · rw [getD_set, if_neg (by omega)]
    exact h.rest j (by omega)
  · rw [valZ_set hlen, h.val, valZ_take_succ]
    have e1 : l.getD (i + k) 0 + x.getD i 0 * y.getD k 0 - l.getD (i + k) 0 = x.getD i 0 * y.getD k 0 := by omega
    rw [e1, Int.mul_add (x.getD i 0), Int.mul_add (256 ^ i)]
    have e2 : (256 : Int) ^ (i + k) * (x.getD i 0 * y.getD k 0) = 256 ^ i * (x.getD i 0 * (256 ^ k * y.getD k 0)) := by
      rw [Int.pow_add, Int.mul_assoc, Int.mul_left_comm (256 ^ k)]
    rw [e2, Int.add_assoc]
theorem mulZ_out {x y l : List Int} {i : Nat} (h : MulZ x y l i y.length) : MulZ x y l (i + 1) 0 := by
  refine ⟨h.len, h.low, fun j => ?_, fun j _ => ?_, ?_⟩
  · have := h.high j; omega
  · have := h.high j; omega
  · rw [h.val, List.take_of_length_le (Nat.le_refl _), valZ_take_succ, Int.add_mul, Int.mul_assoc]
    simp [valZ]
theorem mulZ_end {x y l : List Int} (h : MulZ x y l x.length 0) (hx : x.length ≤ 300) : valZ l = valZ x * valZ y ∧ ∀ d ∈ l, -255 ≤ d ∧ d ≤ 100000000 := by
  refine ⟨?_, fun d hd => ?_⟩
  · rw [h.val, List.take_of_length_le (Nat.le_refl _)]
    simp [valZ]
  · obtain ⟨j, hj, rfl⟩ := List.getElem_of_mem hd
    have h1 := h.low j
    have h2 := h.high j
    have e : l.getD j 0 = l[j] := by simp [hj]
    rw [e] at h1 h2
    omega
theorem val_mul_lt (a b : ByteArray) : (val a : Int) * (val b : Int) < 256 ^ (a.size + b.size) := by
  rw [Int.pow_add]
  have h1 := val_lt_pow a
  have h2 := val_lt_pow b
  have h3 := pow_pos256 a.size
  have h4 := pow_pos256 b.size
  generalize (256 : Int) ^ a.size = p at *
  generalize (256 : Int) ^ b.size = q at *
  have h5 := Int.mul_le_mul_of_nonneg_left (show (val b : Int) ≤ q - 1 by omega) (show 0 ≤ (val a : Int) by omega)
  have h6 := Int.mul_le_mul_of_nonneg_right (show (val a : Int) ≤ p by omega) (show 0 ≤ q - 1 by omega)
  have h7 : p * (q - 1) = p * q - p := by rw [Int.mul_sub, Int.mul_one]
  omega
end Go.Proofs.YteggbpaljmopoaaGreat
/- backflushref06: divide in plain terms. -/
namespace Go.Proofs.YteggbpaljmopoaaGreat
open Go.RowKit BF

theorem div_step (A c v : Nat) (hv : 0 < v) : (256 * A + c) / v = 256 * (A / v) + (256 * (A % v) + c) / v ∧ (256 * A + c) % v = (256 * (A % v) + c) % v := by
  have h := Nat.div_add_mod A v
  have e : 256 * A + c = v * (256 * (A / v)) + (256 * (A % v) + c) := by
    have e1 : v * (256 * (A / v)) = 256 * (v * (A / v)) := Nat.mul_left_comm _ _ _
    rw [e1]
    generalize v * (A / v) = t at *
    omega
  rw [e, Nat.mul_add_div hv, Nat.mul_add_mod]
  exact ⟨rfl, rfl⟩
theorem div_dig (A c v : Nat) (hv : 0 < v) (hc : c < 256) : (256 * (A % v) + c) / v < 256 := by
  have h := Nat.mod_lt A hv
  rw [Nat.div_lt_iff_lt_mul hv]
  have h2 : 256 * (A % v + 1) ≤ 256 * v := Nat.mul_le_mul_left _ h
  omega
/-- a byte behind a number -/
theorem nat_byte (R : Nat) (c : UInt8) (h : 256 * R + c.toNat ≠ 0) : enc (256 * R + c.toNat) = enc R ++ [c] := by
  rw [enc_snoc R c.toNat c.toNat_lt h]
  congr 1
  simp
theorem enc_head {R : Nat} (h : R ≠ 0) (h2 : 0 < (enc R).length) : (enc R)[0] ≠ 0 := by
  have h1 := enc_natural R
  unfold natural at h1
  rw [List.head?_eq_getElem?, List.getElem?_eq_getElem h2] at h1
  intro h3
  rw [h3] at h1
  simp at h1
/-- how the text of the quotient grows -/
theorem quo_step (Q d : Nat) (hd : d < 256) : enc (256 * Q + d) = if d ≠ 0 ∨ enc Q ≠ [] then enc Q ++ [UInt8.ofNat d] else enc Q := by
  by_cases h : 256 * Q + d = 0
  · have h1 : Q = 0 := by omega
    have h2 : d = 0 := by omega
    subst h1; subst h2
    rfl
  · rw [enc_snoc Q d hd h]
    by_cases h1 : d ≠ 0 ∨ enc Q ≠ []
    · rw [if_pos h1]
    · exfalso
      apply h
      have h2 : d = 0 := by omega
      have h3 : enc Q = [] := by
        rcases Classical.em (enc Q = []) with h3 | h3
        · exact h3
        · exact absurd (.inr h3) h1
      have := enc_eq_nil.1 h3
      omega
/-- behind some rounds of subtracting -/
theorem sub_more {S d v : Nat} (h : d * v ≤ S) (h2 : v ≤ S - d * v) : (d + 1) * v ≤ S ∧ S - d * v - v = S - (d + 1) * v := by
  rw [Nat.succ_mul]
  generalize d * v = t at *
  omega
theorem sub_end {S d v : Nat} (h : d * v ≤ S) (h2 : S - d * v < v) : S / v = d ∧ S % v = S - d * v := by
  have hv : 0 < v := by omega
  have e : S = v * d + (S - d * v) := by
    rw [Nat.mul_comm v d]; omega
  have h3 : S / v = d := by
    rw [e, Nat.mul_add_div hv, Nat.div_eq_of_lt h2]
    rfl
  refine ⟨h3, ?_⟩
  have := Nat.div_add_mod S v
  rw [h3, Nat.mul_comm v d] at this
  omega
end Go.Proofs.YteggbpaljmopoaaGreat
/- backflushref06: Mul. PRINTED BY wip/gen_ref06.py -/
namespace Go.Proofs.YteggbpaljmopoaaGreat
open Go.RowKit BF

/-- an owned row of ints at a block -/
def zrow (w : World) (base g n : Nat) (l : List Int) : Prop := w.ownsRow base 3 1 (.slice (some ⟨g, 0, none⟩) n n) n (l.map ZI)
theorem zrow_len {w : World} {base g n : Nat} {l : List Int} (h : zrow w base g n l) : l.length = n := by have := h.1; simpa using this
theorem zrow_cell {w : World} {base g n : Nat} {l : List Int} (h : zrow w base g n l) (j : Nat) (hj : j < n) : w.cell? ⟨g, j, none⟩ = some (.int .i64 (l.getD j 0)) := by
  rw [World.ownsRow.cellAt h j (by omega)]
  have := zrow_len h
  simp [show j < l.length by omega, ZI]
theorem zrow_frozen {w : World} {base g n : Nat} {l : List Int} (h : zrow w base g n l) (j : Nat) : w.frozen? ⟨g, j, none⟩ = false := World.ownsRow.frozenAt h j
theorem zrow_drew {w : World} {base g n : Nat} {l : List Int} (h : zrow w base g n l) : zrow w.drew base g n l := h
theorem zrow_set {w : World} {base g n : Nat} {l : List Int} (h : zrow w base g n l) (j : Nat) (d : Int) :
    zrow (w.setCell ⟨g, j, none⟩ (.int .i64 d)) base g n (l.set j d) ∧ w.grownBy (w.setCell ⟨g, j, none⟩ (.int .i64 d)) (some g) := by
  have := World.ownsRow.stored h j (.int .i64 d)
  rw [show (.int .i64 d) = ZI d from rfl, ← List.map_set] at this
  exact this
theorem zrow_zs {w : World} {base g n : Nat} {l : List Int} (h : zrow w base g n l) : zs w base (.slice (some ⟨g, 0, none⟩) n n) l := by
  have e := zrow_len h
  subst e
  exact h
theorem zs_grown {w w' : World} {base : Nat} {v : Value} {l : List Int} (h : zs w base v l) (hg : w.grownBy w' (some w.heap.size)) : zs w' base v l :=
  World.ownsRow.kept h hg (by
    rcases hb : v.ownBlock with _ | k
    · exact .inl rfl
    · right
      intro e
      injection e with e
      have := (World.ownsRow.lt h k hb).2
      omega)
theorem madeInt (k : Nat) : (madeCells (Value.int .i64 0).cells (k * 1)).toList = (List.replicate k (0 : Int)).map ZI := by
  rw [Nat.mul_one, List.map_replicate]
  exact toList_madeCells_one _ _
theorem rshort_nat (p : Nat) (w : World) (hs : (enc p).length ≤ maxLen) :
    Calls Tryz.prog 75 #[.string (str (enc p))] w fun e w' => e = .returned (.tuple #[.string (shortS p), .int .i64 (shortE p)]) ∧ w' = w := by
  have h := rshort_any (str (enc p)) w hs
  unfold shortS shortE
  rw [str_size] at h
  by_cases hp : (enc p).length ≤ 256
  · rw [if_pos hp] at h
    rw [if_pos hp, if_pos hp]
    exact h
  · rw [if_neg hp] at h
    rw [if_neg hp, if_neg hp]
    exact h
set_option maxRecDepth 100000 in
set_option maxHeartbeats 4000000 in
theorem rMul_core (a b : ByteArray) (na : natB a = true) (nb : natB b = true) (ha : a.size ≤ 256) (hb : b.size ≤ 256) (w : World) :
    Calls Tryz.prog 47 #[.string a, .string b] w fun e w' => e = .returned (.tuple #[.string (shortS (val a * val b)), .int .i64 (shortE (val a * val b))]) ∧ Below w.heap.size w w' := by
  obtain ⟨i0, hi, hz0, hz1, hz2⟩ := info_parts info_int
  have hbo := rboth_any a b w (by unfold maxLen; omega) (by unfold maxLen; omega)
  rw [chk_two, if_pos ⟨na, nb⟩, if_pos ⟨ha, hb⟩] at hbo
  have HBO := Lib.hid hbo
  have HD1 := Lib.hid (fun w => rdigits_any a (by omega) w)
  have HD2 := Lib.hid (fun w => rdigits_any b (by omega) w)
  clear na nb hbo
  obtain ⟨X, hX⟩ : ∃ X, digZ a.data.toList = X := ⟨_, rfl⟩
  obtain ⟨Y, hY⟩ : ∃ Y, digZ b.data.toList = Y := ⟨_, rfl⟩
  have HXD : Hid (digs8 X) := by rw [← hX]; exact digs8_digZ _
  have HYD : Hid (digs8 Y) := by rw [← hY]; exact digs8_digZ _
  have HXV : Hid (valZ X = (val a : Int)) := by rw [← hX]; exact valZ_digZ _
  have HYV : Hid (valZ Y = (val b : Int)) := by rw [← hY]; exact valZ_digZ _
  obtain ⟨n, hn⟩ : ∃ n, a.size = n := ⟨_, rfl⟩
  obtain ⟨m, hm⟩ : ∃ m, b.size = m := ⟨_, rfl⟩
  have HXL : Hid (X.length = n) := by rw [← hX, ← hn]; exact digZ_len _
  have HYL : Hid (Y.length = m) := by rw [← hY, ← hm]; exact digZ_len _
  have HXN : Hid (X.length ≤ 1000) := by show _ ≤ _; rw [HXL.out]; omega
  have HYN : Hid (Y.length ≤ 1000) := by show _ ≤ _; rw [HYL.out]; omega
  have hpw := val_mul_lt a b
  rw [hn, hm] at hpw
  have HPW := Lib.hid hpw
  clear hpw
  have hln : (enc (val a * val b)).length ≤ n + m := by
    apply enc_length_lt
    have := val_mul_lt a b
    rw [hn, hm] at this
    exact_mod_cast this
  have HSH := Lib.hid (fun w => rshort_nat (val a * val b) w (by unfold maxLen; omega))
  have hva : ((val a : Int) * (val b : Int)).toNat = val a * val b := by
    rw [← Int.natCast_mul, Int.toNat_natCast]
  have HVA := Lib.hid hva
  clear hva hln
  generalize val a * val b = r at *
  generalize shortS r = S at *
  generalize shortE r = E at *
  generalize val a = va at *
  generalize val b = vb at *
  unfold DigPost at HD1 HD2
  rw [hX] at HD1
  rw [hY] at HD2
  rw [hn] at ha
  rw [hm] at hb
  clear hX hY hn hm
  go_enter Tryz.func47, Tryz.ntmps47
  go_wp2_with (fail)
  refine HBO.out.mono ?_
  rintro e w0 ⟨rfl, rfl⟩
  go_wp2_with (fail)
  refine (HD1.out _).mono ?_
  rintro e w1 ⟨vx, rfl, hx, hw1⟩
  have HX := Lib.hid hx
  have HW1 := Lib.hid hw1
  clear hx hw1
  obtain ⟨ax, cx, hvx, -⟩ := zs_form HX.out
  rw [HXL.out] at hvx
  subst hvx
  go_wp2_with (fail)
  refine (HD2.out _).mono ?_
  rintro e w2 ⟨vy, rfl, hy, hw2⟩
  have HY2 := Lib.hid hy
  have HW2 := Lib.hid hw2
  clear hy hw2
  obtain ⟨ay, cy, hvy, -⟩ := zs_form HY2.out
  rw [HYL.out] at hvy
  subst hvy
  have HX2 := Lib.hid (zs_under HX.out HW2.out)
  clear HX
  obtain ⟨N, hN⟩ : ∃ N, n + m = N := ⟨_, rfl⟩
  have HLI : Hid ((n : Int) + (m : Int) = (N : Int)) := by show _ = _; omega
  have HNM := Lib.hid hN
  clear hN
  go_wp2_with (at_make; refine wpList_make_full _ rfl _ _ 23 rfl w2.heap.size 3 i0 (.int .i64 0) 1 Tryz.underlying23 hi hz0 hz1 .i64 .i64 _ _ N rfl rfl HLI.out HLI.out (by have := HNM.out; rw [hz2]; omega) (by have := HNM.out; unfold maxLen; omega) (Nat.le_refl _) ?_; intro w3 hown1 hgrow1)
  rw [madeInt] at hown1
  have HR3 : Hid (zrow w3 w2.heap.size w2.heap.size N (List.replicate N 0)) := hown1
  have HG3 : Hid (w2.grownBy w3 (some w2.heap.size)) := ⟨hgrow1.os, hgrow1.tape, hgrow1.output, hgrow1.size, fun k hk _ => hgrow1.block k hk (by simp)⟩
  clear hown1 hgrow1
  go_loopw [10] (fun i wr => ∃ (i' : Nat) (l : List Int), i' ≤ n ∧ i = .int .i64 (i' : Int) ∧ Hid (zrow wr w2.heap.size w2.heap.size N l) ∧ Hid (MulZ X Y l i' 0) ∧ Hid (w2.grownBy wr (some w2.heap.size))) (fun i _ => n - (intOf i).toNat)
  case atStart => exact ⟨0, _, Nat.zero_le _, rfl, HR3, by have := mulZ_start X Y; rw [HXL.out, HYL.out, HNM.out] at this; exact this, HG3⟩
  case round =>
    clear HR3 HG3
    obtain ⟨i, l, hin, rfl, HR, HM, HG⟩ := hrel
    by_cases hlt : i < n
    · have hii : (i : Int) < (n : Int) := by omega
      go_wp2_with (fail)
      go_loopw [11] (fun k wr => ∃ (k' : Nat) (l : List Int), k' ≤ m ∧ k = .int .i64 (k' : Int) ∧ Hid (zrow wr w2.heap.size w2.heap.size N l) ∧ Hid (MulZ X Y l i k') ∧ Hid (w2.grownBy wr (some w2.heap.size))) (fun k _ => m - (intOf k).toNat)
      case atStart => exact ⟨0, l, Nat.zero_le _, rfl, HR, HM, HG⟩
      case round =>
        clear HR HM HG
        obtain ⟨k, l, hkm, rfl, HR, HM, HG⟩ := hrel
        by_cases hkt : k < m
        · have hki : (k : Int) < (m : Int) := by omega
          have HZX := Lib.hid (zs_grown HX2.out HG.out)
          have HZY := Lib.hid (zs_grown HY2.out HG.out)
          obtain ⟨gx, hgx⟩ := zs_ptr HZX.out (by omega)
          obtain ⟨gy, hgy⟩ := zs_ptr HZY.out (by omega)
          subst hgx
          subst hgy
          obtain ⟨hcx, -, -⟩ := zs_cell HZX.out i (by rw [HXL.out]; exact hlt)
          obtain ⟨hcy, -, -⟩ := zs_cell HZY.out k (by rw [HYL.out]; exact hkt)
          rw [Nat.zero_add] at hcx hcy
          have hcl := zrow_cell HR.out (i + k) (by have := HNM.out; omega)
          have hfl := zrow_frozen HR.out (i + k)
          have HS := Lib.hid (mulZ_in HM.out HXD.out HYD.out (by rw [HXL.out]; exact hlt) (by rw [HYL.out]; exact hkt))
          have hdd := dig_mul (digs8_getD HXD.out i) (digs8_getD HYD.out k)
          have hl1 := HM.out.low (i + k)
          have hl2 := HM.out.high (i + k)
          obtain ⟨j, hj⟩ : ∃ j, i + k = j := ⟨_, rfl⟩
          have hij : (i : Int) + (k : Int) = (j : Int) := by omega
          have hjN : j < N := by have := HNM.out; omega
          have hj9 : j ≤ 512 := by omega
          have hwj : IntKind.i64.wrap (j : Int) = (j : Int) := by rw [Go.IntWalk.i64_left]; exact Go.IntWalk.wrap64_in _ (by omega)
          rw [hj] at hcl hfl HS hl1 hl2
          clear hj
          generalize X.getD i 0 = dx at *
          generalize Y.getD k 0 = dy at *
          generalize l.getD j 0 = lv at *
          have hw1 : wrap64 (dx * dy) = dx * dy := Go.IntWalk.wrap64_in _ (by omega)
          have hw2 : wrap64 (lv + dx * dy) = lv + dx * dy := Go.IntWalk.wrap64_in _ (by omega)
          have hd0 := hdd.1
          have hd1 := hdd.2
          clear hdd
          go_wp2_with (fail)
          go_region
          have R := zrow_set (zrow_drew HR.out) j (lv + dx * dy)
          have HG2 : Hid (w2.grownBy (wr.drew.setCell ⟨w2.heap.size, j, none⟩ (.int .i64 (lv + dx * dy))) (some w2.heap.size)) := grownBy_trans (grownBy_drew HG.out) R.2
          have hR2 := Lib.hid R.1
          clear R
          go_wp2_with (fail)
          exact ⟨⟨k + 1, _, by omega, by go_num, hR2.out, HS.out, HG2⟩, by simp [intOf]; omega⟩
        · obtain rfl : k = m := by omega
          have HM2 : Hid (MulZ X Y l (i + 1) 0) := mulZ_out (by rw [HYL.out]; exact HM.out)
          go_wp2
          go_roundw
          case rel => exact ⟨i + 1, l, by omega, by go_num, HR.out, HM2.out, HG.out⟩
          case measure => simp [intOf]; omega
    · obtain rfl : i = n := by omega
      have hme := mulZ_end (by rw [HXL.out]; exact HM.out) (by rw [HXL.out]; omega)
      rw [HXV.out, HYV.out] at hme
      have hv := hme.1
      have hnn : (0 : Int) ≤ (va : Int) * (vb : Int) := Int.mul_nonneg (by omega) (by omega)
      have HCA := Lib.hid (rcarry_any _ l _ N wr (zrow_zs HR.out) hme.2 (by rw [zrow_len HR.out]; exact Nat.le_refl _) (by have := HNM.out; omega) (by rw [hv]; exact hnn) (by rw [hv, ← HNM.out]; exact HPW.out))
      have HV := Lib.hid hv
      have HBW : Hid (Below w2.heap.size w2 wr) := grownBy_below HG.out (Nat.le_refl _) (fun q hq => by cases hq; exact Nat.le_refl _)
      have hN5 : N ≤ 512 := by have := HNM.out; omega
      clear hv hme hnn
      go_wp2_with (fail)
      refine HCA.out.mono ?_
      rintro e w3 ⟨v3, o3, rfl, hz3, hd3, hv3, hl3, hB3⟩
      have HNU := Lib.hid (rnumber_any v3 o3 _ w3 hz3 hd3 (by omega))
      rw [hv3, HV.out, HVA.out] at HNU
      have HB3 := Lib.hid hB3
      clear hz3 hd3 hv3 hl3 hB3
      go_wp2_with (fail)
      refine HNU.out.mono ?_
      rintro e w4 ⟨rfl, hB4⟩
      have HBA := Lib.hid ((HW1.out.trans (HW2.out.mono HW1.out.size)).trans ((HBW.out.mono (Nat.le_trans HW1.out.size HW2.out.size)).trans ((HB3.out.trans (hB4.mono HB3.out.size)).mono (Nat.le_trans (Nat.le_trans HW1.out.size HW2.out.size) HBW.out.size))))
      clear hB4
      go_wp2_with (fail)
      refine (HSH.out _).mono ?_
      rintro e w5 ⟨rfl, rfl⟩
      go_wp2
      go_ret2
      exact ⟨rfl, HBA.out⟩
end Go.Proofs.YteggbpaljmopoaaGreat
/- backflushref06: divide. PRINTED BY wip/gen_div06.py -/
namespace Go.Proofs.YteggbpaljmopoaaGreat
open Go.RowKit BF

theorem str_of {s : ByteArray} {l : List UInt8} (h : s.data.toList = l) : s = str l := by rw [← h]; exact (str_toList s).symm
theorem u8s_under {w w' : World} {base : Nat} {v : Value} {l : List UInt8} (h : u8s w base v l) (hb : Below w.heap.size w w') : u8s w' base v l := by
  obtain ⟨h0, h | ⟨g, cap, cur, rfl, h1, h2, h3⟩⟩ := h
  · exact ⟨h0, .inl h⟩
  · exact ⟨h0, .inr ⟨g, cap, cur, rfl, h1, by rw [hb.block g (Array.getElem?_eq_some_iff.1 h2).1]; exact h2, h3⟩⟩
/-- one byte of a text behind another text -/
theorem cat_byte (r : Nat) (a : ByteArray) (k : Nat) (hk : k < a.size) : (nat r ++ a.extract k (k + 1)).data.toList = enc r ++ [a[k]] := by
  rw [ByteArray.data_append, ByteArray.data_extract, Array.toList_append, Array.toList_extract]
  have hk2 : k < a.data.toList.length := hk
  have e : (a.data.toList.extract k (k + 1)) = [a[k]] := by
    rw [List.extract_eq_take_drop, show k + 1 - k = 1 by omega, List.drop_eq_getElem_cons hk2]
    rfl
  rw [e]
  rfl
structure CatByte (S : Nat) (R1 : ByteArray) (h : 0 < R1.size) : Prop where
  zero : S = 0 → R1[0].toNat = 0 ∧ R1.extract 1 R1.size = nat 0
  more : S ≠ 0 → R1[0].toNat ≠ 0 ∧ R1 = nat S
theorem cat_rel (r : Nat) (a : ByteArray) (k : Nat) (hk : k < a.size) {R1 : ByteArray} (hR : nat r ++ a.extract k (k + 1) = R1) : ∃ h : 0 < R1.size, CatByte (256 * r + a[k].toNat) R1 h := by
  have hl := cat_byte r a k hk
  rw [hR] at hl
  have hs : R1.size = (enc r).length + 1 := by
    have := congrArg List.length hl
    rw [List.length_append] at this
    exact this
  refine ⟨by omega, fun hS => ?_, fun hS => ?_⟩
  · have h1 : r = 0 := by omega
    have h2 : a[k].toNat = 0 := by omega
    subst h1
    have hl2 : R1.data.toList = [a[k]] := hl
    have e := str_of hl2
    subst e
    refine ⟨h2, ?_⟩
    rfl
  · have e1 := nat_byte r a[k] hS
    rw [← e1] at hl
    have e := str_of hl
    subst e
    refine ⟨?_, rfl⟩
    have h3 := enc_head hS (by rw [e1]; simp)
    intro h4
    apply h3
    exact UInt8.toNat_inj.1 h4
theorem enc_len_mono {a b : Nat} (h : a ≤ b) : (enc a).length ≤ (enc b).length := by
  rw [enc_length_le_iff]
  have := (enc_length_le_iff b (enc b).length).1 (Nat.le_refl _)
  omega
theorem natB_nat (x : Nat) : natB (nat x) = true := by
  show natural (str (enc x)).data.toList = true
  rw [str_data]
  exact enc_natural x
def DivPost (a b : ByteArray) (w : World) (e : Ending) (w' : World) : Prop := e = .returned (.tuple #[.string (nat (val a / val b)), .string (nat (val a % val b))]) ∧ Below w.heap.size w w'
set_option maxRecDepth 100000 in
set_option maxHeartbeats 4000000 in
theorem rdivide_any (a b : ByteArray) (nb : natB b = true) (hv : 0 < val b) (ha : a.size ≤ 256) (hb : b.size ≤ 256) (w : World) :
    Calls Tryz.prog 70 #[.string a, .string b] w (DivPost a b w) := by
  have hpure : ∀ w : World, (pure #[] : Sem (Array Value)).run Tryz.prog w = .ok #[] w := fun _ => rfl
  have hst0 : ∀ (a : Addr) (w : World), (storeCells a []).run Tryz.prog w = .ok () w := fun _ _ => rfl
  obtain ⟨i0, hi, hz0, hz1, hz2⟩ := info_parts info5
  obtain ⟨n, hn⟩ : ∃ n, a.size = n := ⟨_, rfl⟩
  obtain ⟨V, hV⟩ : ∃ V, val b = V := ⟨_, rfl⟩
  have HN := Lib.hid hn
  have HV := Lib.hid hV
  rw [hV] at hv
  rw [hn] at ha
  have HBV : Hid (b = nat V) := by show _ = _; rw [← hV, nat_val nb]
  have HPost : Hid (∀ e w', e = Ending.returned (.tuple #[.string (nat (dec (a.data.toList.take n) / V)), .string (nat (dec (a.data.toList.take n) % V))]) → Below w.heap.size w w' → DivPost a b w e w') := fun e w' h1 h2 => by
    unfold DivPost
    rw [hV]
    have e1 : a.data.toList.take n = a.data.toList := by rw [← hn]; exact List.take_length
    rw [e1] at h1
    exact ⟨h1, h2⟩
  generalize DivPost a b w = POST at *
  have hV6 : V < 256 ^ 256 := by
    have h := val_lt_pow b
    rw [hV] at h
    have h2 := pow256_mono hb
    have h3 : (V : Int) < 256 ^ 256 := Int.lt_of_lt_of_le h h2
    exact_mod_cast h3
  have HV6 := Lib.hid hV6
  have HNB := Lib.hid nb
  clear nb hn hV hV6
  go_enter Tryz.func70, Tryz.ntmps70
  go_wp2_with (fail)
  go_loopw [6, 7, 8] (fun q r i wr => ∃ k : Nat, k ≤ n ∧ i = .int .i64 (k : Int) ∧ r = .string (nat (dec (a.data.toList.take k) % V)) ∧ Hid (u8s wr w.heap.size q (enc (dec (a.data.toList.take k) / V))) ∧ Hid (Below w.heap.size w wr)) (fun _ _ i _ => n - (intOf i).toNat)
  case atStart => exact ⟨0, Nat.zero_le _, rfl, by rw [List.take_zero]; show _ = Value.string (nat (0 % V)); rw [Nat.zero_mod]; rfl, by rw [List.take_zero]; show u8s _ _ _ (enc (0 / V)); rw [Nat.zero_div]; exact u8s_new _ _ (Nat.le_refl _), (Below.refl _ w).alloc (Nat.le_refl _) _⟩
  case round =>
    obtain ⟨k, hk, rfl, rfl, HQ, HW⟩ := hrel
    by_cases hkn : k < n
    · have hks : k < a.size := by rw [HN.out]; exact hkn
      have hki : (k : Int) < (n : Int) := by omega
      have hst := int_step a.data.toList k hks
      obtain ⟨A, hA⟩ : ∃ A, dec (a.data.toList.take k) = A := ⟨_, rfl⟩
      have hA6 := dec_take_lt a.data.toList k (Nat.le_of_lt hks)
      rw [hA] at hst HQ hA6 ⊢
      obtain ⟨c, hc⟩ : ∃ c : Nat, a[k].toNat = c := ⟨_, rfl⟩
      have hst : dec (a.data.toList.take (k + 1)) = 256 * A + c := by rw [← hc]; exact hst
      have hc2 : c < 256 := by rw [← hc]; exact (a[k]).toNat_lt
      have hds := div_step A c V hv
      have hdd := div_dig A c V hv hc2
      obtain ⟨S, hS⟩ : ∃ S, 256 * (A % V) + c = S := ⟨_, rfl⟩
      rw [hS] at hds hdd
      obtain ⟨C, hC⟩ : ∃ C, a.extract k (k + 1) = C := ⟨_, rfl⟩
      obtain ⟨R1, hR1⟩ : ∃ R1, nat (A % V) ++ C = R1 := ⟨_, rfl⟩
      obtain ⟨hr0, hcr⟩ := cat_rel (A % V) a k hks (R1 := R1) (by rw [hC]; exact hR1)
      rw [hc, hS] at hcr
      have HCR := Lib.hid hcr
      have HST : Hid (dec (a.data.toList.take (k + 1)) / V = 256 * (A / V) + S / V ∧ dec (a.data.toList.take (k + 1)) % V = S % V ∧ S / V < 256) := by rw [hst]; exact ⟨hds.1, hds.2, hdd⟩
      have HS7 : Hid ((enc S).length ≤ 257) := by
        show _ ≤ _
        obtain ⟨q, hq⟩ : ∃ q : Nat, q + 1 = 257 := ⟨256, rfl⟩
        rw [← hq, enc_length_le_iff, Nat.pow_succ]
        have h1 := Nat.mod_lt A hv
        have h2 : V < 256 ^ q := by
          have h3 : q = 256 := by omega
          rw [h3]
          exact HV6.out
        generalize 256 ^ q = p at *
        omega
      have hql : (enc (A / V)).length ≤ k := (enc_length_le_iff _ _).2 (Nat.lt_of_le_of_lt (Nat.div_le_self _ _) hA6)
      have hsl1 : ∀ w : World, (Instr.slice 9 (.string a) (some (.int .i64 (k : Int))) (some (.int .i64 ((k : Int) + 1))) none).run Tryz.prog w = .ok (.string C) w := fun w => by
        rw [run_slice_string w _ a _ _ _ _ Tryz.underlying9 (by omega) (by omega) (by rw [HN.out]; omega), ← hC]
        rfl
      have hcs : C.size ≤ 1 := by rw [← hC, ByteArray.size_extract]; omega
      have hrs : (nat (A % V)).size ≤ 256 := (enc_length_le_iff _ _).2 (Nat.lt_trans (Nat.mod_lt A hv) HV6.out)
      have hsl2 : ∀ w : World, (Instr.slice 9 (.string R1) (some (.int .i64 1)) none none).run Tryz.prog w = .ok (.string (R1.extract 1 R1.size)) w := fun w => by
        rw [run_slice_string_from_if w _ R1 _ _ Tryz.underlying9, if_pos (by omega)]
        rfl
      have hcat := hR1
      clear hst hds hdd hcr hC hR1 hS hc hA hA6 hc2
      obtain ⟨Q, hQ⟩ : ∃ Q, A / V = Q := ⟨_, rfl⟩
      rw [hQ] at HST HQ hql
      clear hQ
      generalize nat (A % V) = R at *
      obtain ⟨qs, hqs⟩ : ∃ qs, enc Q = qs := ⟨_, rfl⟩
      rw [hqs] at HQ hql
      have HQS := Lib.hid hqs
      clear hqs
      obtain ⟨aq, cq, hqv, -⟩ := u8s_form HQ.out
      subst hqv
      have hql2 : qs.length ≤ 256 := by omega
      clear hql
      obtain ⟨wo, hwo⟩ : ∃ wo : World, wo = wr := ⟨_, rfl⟩
      subst hwo
      by_cases hS0 : S = 0
      · obtain ⟨hx, hy⟩ := HCR.out.zero hS0
        have hx0 : ((R1[0].toNat : Int) == 0) = true := by rw [hx]; rfl
        rw [hy, ← hS0] at hsl2
        clear hx hy HCR hS0
        go_wp2_with (fail)
        go_loopw [7, 9] (fun r d wr => ∃ d' : Nat, d = .int .i64 (d' : Int) ∧ r = .string (nat (S - d' * V)) ∧ Hid (d' * V ≤ S) ∧ d' ≤ 255 ∧ Hid (Below wo.heap.size wo wr)) (fun _ d _ => 255 - (intOf d).toNat)
        case atStart => exact ⟨0, rfl, by rw [Nat.zero_mul, Nat.sub_zero], by show _ ≤ _; rw [Nat.zero_mul]; exact Nat.zero_le _, by decide, Below.refl _ _⟩
        case round =>
          obtain ⟨d, rfl, rfl, HD, hd, HW2⟩ := hrel
          obtain ⟨T, hT⟩ : ∃ T, S - d * V = T := ⟨_, rfl⟩
          have htl : (nat T).size ≤ 257 := Nat.le_trans (enc_len_mono (by rw [← hT]; exact Nat.sub_le _ _)) HS7.out
          have HL := Lib.hid (r6less_any (nat T) b wr (natB_nat T) HNB.out (by unfold maxLen; omega) (by unfold maxLen; omega))
          rw [val_nat, HV.out] at HL
          by_cases hlt : T < V
          · have he := sub_end HD.out (by rw [hT]; exact hlt)
            have HRES : Hid (dec (a.data.toList.take (k + 1)) / V = 256 * Q + d ∧ dec (a.data.toList.take (k + 1)) % V = T) := by
              have h := HST.out
              rw [he.1, he.2, hT] at h
              exact ⟨h.1, h.2.1⟩
            have HR2 : Hid (nat (dec (a.data.toList.take (k + 1)) % V) = nat T) := by show _ = _; rw [HRES.out.2]
            have HQN := Lib.hid (quo_step Q d (by omega))
            rw [HQS.out] at HQN
            rw [decide_eq_true hlt] at HL
            rw [hT]
            clear he hT hlt HD
            generalize nat T = TS at *
            go_wp2_with (fail)
            refine HL.out.mono ?_
            rintro e w3 ⟨rfl, hb3⟩
            have HQ3 := Lib.hid (u8s_under HQ.out (HW2.out.trans (hb3.mono HW2.out.size)))
            have HW3 := Lib.hid (HW.out.trans ((HW2.out.trans (hb3.mono HW2.out.size)).mono HW.out.size))
            clear hb3
            have hb4 := HQ3.out
            have hsz3 := HW3.out.size
            by_cases hd0 : d = 0
            · subst hd0
              have hdi : ¬ (0 : Int) < ((0 : Nat) : Int) := by decide
              by_cases hq0 : qs = []
              · have hql0 : qs.length = 0 := by rw [hq0]; rfl
                have HC : Hid (¬ (0 ≠ 0 ∨ qs ≠ [])) := by show ¬ _; simp [hq0]
                have hqi : ¬ (0 : Int) < (qs.length : Int) := by rw [hq0]; decide
                have HQ4 : Hid (u8s w3 w.heap.size (.slice aq 0 cq) qs) := by
                  have h := HQ3.out
                  rw [show qs.length = 0 by rw [hq0]; rfl] at h
                  exact h
                clear hq0
                go_wp2_with (fail)
                exact ⟨⟨k + 1, by omega, by go_num, by rw [HR2.out], by rw [HRES.out.1, HQN.out, if_neg HC.out]; exact HQ4.out, HW3.out⟩, by simp [intOf]; omega⟩
              · have hql0 : 0 < qs.length := List.length_pos_iff.2 hq0
                have HC : Hid (0 ≠ 0 ∨ qs ≠ []) := .inr hq0
                have hqi : (0 : Int) < (qs.length : Int) := by omega
                clear hq0
                go_wp2_with (at_builtin; refine wpList_append_own _ rfl _ _ 149 rfl w.heap.size 5 i0 (.int .u8 0) 1 1 Tryz.underlying149 hi hz0 hz1 hz2 rfl (by decide) _ _ _ rfl (hb4.alloc _) ⟨w3.heap.size, 0, none⟩ 1 1 [_] rfl rfl (one_cell _ _ _) (one_one _ rfl) (by unfold maxLen; omega) (by omega) (by simp; omega) ?_; intro v' w1 hown' hgrow _; clear hb4)
                have hB2 : Below w.heap.size w w1 := Below.grown (HW3.out.alloc hsz3 _) hgrow (by simp; omega) (fun q hq => (World.ownsRow.lt HQ3.out q hq).1)
                exact ⟨⟨k + 1, by omega, by go_num, by rw [HR2.out], by rw [HRES.out.1, HQN.out, if_pos (HC.out)]; exact u8s_app hown' (by omega) (by omega), hB2⟩, by simp [intOf]; omega⟩
            · have hdi : (0 : Int) < (d : Int) := by omega
              have HC : Hid (d ≠ 0 ∨ qs ≠ []) := .inl hd0
              clear hd0
              go_wp2_with (at_builtin; refine wpList_append_own _ rfl _ _ 149 rfl w.heap.size 5 i0 (.int .u8 0) 1 1 Tryz.underlying149 hi hz0 hz1 hz2 rfl (by decide) _ _ _ rfl (hb4.alloc _) ⟨w3.heap.size, 0, none⟩ 1 1 [_] rfl rfl (one_cell _ _ _) (one_one _ rfl) (by unfold maxLen; omega) (by omega) (by simp; omega) ?_; intro v' w1 hown' hgrow _; clear hb4)
              have hB2 : Below w.heap.size w w1 := Below.grown (HW3.out.alloc hsz3 _) hgrow (by simp; omega) (fun q hq => (World.ownsRow.lt HQ3.out q hq).1)
              exact ⟨⟨k + 1, by omega, by go_num, by rw [HR2.out], by rw [HRES.out.1, HQN.out, if_pos (HC.out)]; exact u8s_app hown' (by omega) (by omega), hB2⟩, by simp [intOf]; omega⟩
          · have hm := sub_more HD.out (by rw [hT]; omega)
            have HM1 : Hid ((d + 1) * V ≤ S) := hm.1
            have HM2 : Hid (nat (T - V) = nat (S - (d + 1) * V)) := by show _ = _; rw [← hm.2, hT]
            have hd1 : d + 1 ≤ 255 := by
              have h := HST.out.2.2
              have h2 := (Nat.le_div_iff_mul_le hv).2 hm.1
              omega
            have HMI := Lib.hid (fun w => rminus_any (nat T) b (by omega) (by rw [HBV.out]; exact enc_len_mono (by omega)) (by rw [val_nat, HV.out]; omega) w)
            rw [val_nat, HV.out] at HMI
            rw [decide_eq_false hlt] at HL
            rw [hT]
            clear hm hT hlt HD
            generalize nat T = TS at *
            generalize nat (T - V) = TN at *
            go_wp2_with (fail)
            refine HL.out.mono ?_
            rintro e w3 ⟨rfl, hb3⟩
            go_wp2_with (fail)
            refine (HMI.out _).mono ?_
            rintro e w4 ⟨rfl, hb4⟩
            have HW5 : Hid (Below wo.heap.size wo w4) := HW2.out.trans ((hb3.trans (hb4.mono hb3.size)).mono HW2.out.size)
            clear hb3 hb4
            go_wp2_with (fail)
            exact ⟨⟨d + 1, by go_num, by rw [HM2.out], HM1.out, hd1, HW5.out⟩, by simp [intOf]; omega⟩
      · obtain ⟨hx, hy⟩ := HCR.out.more hS0
        have hx0 : ((R1[0].toNat : Int) == 0) = false := by simp; omega
        clear hx HCR hS0
        have HY := Lib.hid hy
        clear hy
        go_wp2_with (fail)
        go_loopw [7, 9] (fun r d wr => ∃ d' : Nat, d = .int .i64 (d' : Int) ∧ r = .string (nat (S - d' * V)) ∧ Hid (d' * V ≤ S) ∧ d' ≤ 255 ∧ Hid (Below wo.heap.size wo wr)) (fun _ d _ => 255 - (intOf d).toNat)
        case atStart => exact ⟨0, rfl, by rw [HY.out, Nat.zero_mul, Nat.sub_zero], by show _ ≤ _; rw [Nat.zero_mul]; exact Nat.zero_le _, by decide, Below.refl _ _⟩
        case round =>
          obtain ⟨d, rfl, rfl, HD, hd, HW2⟩ := hrel
          obtain ⟨T, hT⟩ : ∃ T, S - d * V = T := ⟨_, rfl⟩
          have htl : (nat T).size ≤ 257 := Nat.le_trans (enc_len_mono (by rw [← hT]; exact Nat.sub_le _ _)) HS7.out
          have HL := Lib.hid (r6less_any (nat T) b wr (natB_nat T) HNB.out (by unfold maxLen; omega) (by unfold maxLen; omega))
          rw [val_nat, HV.out] at HL
          by_cases hlt : T < V
          · have he := sub_end HD.out (by rw [hT]; exact hlt)
            have HRES : Hid (dec (a.data.toList.take (k + 1)) / V = 256 * Q + d ∧ dec (a.data.toList.take (k + 1)) % V = T) := by
              have h := HST.out
              rw [he.1, he.2, hT] at h
              exact ⟨h.1, h.2.1⟩
            have HR2 : Hid (nat (dec (a.data.toList.take (k + 1)) % V) = nat T) := by show _ = _; rw [HRES.out.2]
            have HQN := Lib.hid (quo_step Q d (by omega))
            rw [HQS.out] at HQN
            rw [decide_eq_true hlt] at HL
            rw [hT]
            clear he hT hlt HD
            generalize nat T = TS at *
            go_wp2_with (fail)
            refine HL.out.mono ?_
            rintro e w3 ⟨rfl, hb3⟩
            have HQ3 := Lib.hid (u8s_under HQ.out (HW2.out.trans (hb3.mono HW2.out.size)))
            have HW3 := Lib.hid (HW.out.trans ((HW2.out.trans (hb3.mono HW2.out.size)).mono HW.out.size))
            clear hb3
            have hb4 := HQ3.out
            have hsz3 := HW3.out.size
            by_cases hd0 : d = 0
            · subst hd0
              have hdi : ¬ (0 : Int) < ((0 : Nat) : Int) := by decide
              by_cases hq0 : qs = []
              · have hql0 : qs.length = 0 := by rw [hq0]; rfl
                have HC : Hid (¬ (0 ≠ 0 ∨ qs ≠ [])) := by show ¬ _; simp [hq0]
                have hqi : ¬ (0 : Int) < (qs.length : Int) := by rw [hq0]; decide
                have HQ4 : Hid (u8s w3 w.heap.size (.slice aq 0 cq) qs) := by
                  have h := HQ3.out
                  rw [show qs.length = 0 by rw [hq0]; rfl] at h
                  exact h
                clear hq0
                go_wp2_with (fail)
                exact ⟨⟨k + 1, by omega, by go_num, by rw [HR2.out], by rw [HRES.out.1, HQN.out, if_neg HC.out]; exact HQ4.out, HW3.out⟩, by simp [intOf]; omega⟩
              · have hql0 : 0 < qs.length := List.length_pos_iff.2 hq0
                have HC : Hid (0 ≠ 0 ∨ qs ≠ []) := .inr hq0
                have hqi : (0 : Int) < (qs.length : Int) := by omega
                clear hq0
                go_wp2_with (at_builtin; refine wpList_append_own _ rfl _ _ 149 rfl w.heap.size 5 i0 (.int .u8 0) 1 1 Tryz.underlying149 hi hz0 hz1 hz2 rfl (by decide) _ _ _ rfl (hb4.alloc _) ⟨w3.heap.size, 0, none⟩ 1 1 [_] rfl rfl (one_cell _ _ _) (one_one _ rfl) (by unfold maxLen; omega) (by omega) (by simp; omega) ?_; intro v' w1 hown' hgrow _; clear hb4)
                have hB2 : Below w.heap.size w w1 := Below.grown (HW3.out.alloc hsz3 _) hgrow (by simp; omega) (fun q hq => (World.ownsRow.lt HQ3.out q hq).1)
                exact ⟨⟨k + 1, by omega, by go_num, by rw [HR2.out], by rw [HRES.out.1, HQN.out, if_pos (HC.out)]; exact u8s_app hown' (by omega) (by omega), hB2⟩, by simp [intOf]; omega⟩
            · have hdi : (0 : Int) < (d : Int) := by omega
              have HC : Hid (d ≠ 0 ∨ qs ≠ []) := .inl hd0
              clear hd0
              go_wp2_with (at_builtin; refine wpList_append_own _ rfl _ _ 149 rfl w.heap.size 5 i0 (.int .u8 0) 1 1 Tryz.underlying149 hi hz0 hz1 hz2 rfl (by decide) _ _ _ rfl (hb4.alloc _) ⟨w3.heap.size, 0, none⟩ 1 1 [_] rfl rfl (one_cell _ _ _) (one_one _ rfl) (by unfold maxLen; omega) (by omega) (by simp; omega) ?_; intro v' w1 hown' hgrow _; clear hb4)
              have hB2 : Below w.heap.size w w1 := Below.grown (HW3.out.alloc hsz3 _) hgrow (by simp; omega) (fun q hq => (World.ownsRow.lt HQ3.out q hq).1)
              exact ⟨⟨k + 1, by omega, by go_num, by rw [HR2.out], by rw [HRES.out.1, HQN.out, if_pos (HC.out)]; exact u8s_app hown' (by omega) (by omega), hB2⟩, by simp [intOf]; omega⟩
          · have hm := sub_more HD.out (by rw [hT]; omega)
            have HM1 : Hid ((d + 1) * V ≤ S) := hm.1
            have HM2 : Hid (nat (T - V) = nat (S - (d + 1) * V)) := by show _ = _; rw [← hm.2, hT]
            have hd1 : d + 1 ≤ 255 := by
              have h := HST.out.2.2
              have h2 := (Nat.le_div_iff_mul_le hv).2 hm.1
              omega
            have HMI := Lib.hid (fun w => rminus_any (nat T) b (by omega) (by rw [HBV.out]; exact enc_len_mono (by omega)) (by rw [val_nat, HV.out]; omega) w)
            rw [val_nat, HV.out] at HMI
            rw [decide_eq_false hlt] at HL
            rw [hT]
            clear hm hT hlt HD
            generalize nat T = TS at *
            generalize nat (T - V) = TN at *
            go_wp2_with (fail)
            refine HL.out.mono ?_
            rintro e w3 ⟨rfl, hb3⟩
            go_wp2_with (fail)
            refine (HMI.out _).mono ?_
            rintro e w4 ⟨rfl, hb4⟩
            have HW5 : Hid (Below wo.heap.size wo w4) := HW2.out.trans ((hb3.trans (hb4.mono hb3.size)).mono HW2.out.size)
            clear hb3 hb4
            go_wp2_with (fail)
            exact ⟨⟨d + 1, by go_num, by rw [HM2.out], HM1.out, hd1, HW5.out⟩, by simp [intOf]; omega⟩
    · obtain rfl : k = n := by omega
      have hcv := u8s_string HQ.out
      obtain ⟨aq, cq, hqv, -⟩ := u8s_form HQ.out
      subst hqv
      have hks : ¬ k < a.size := by rw [HN.out]; exact Nat.lt_irrefl _
      have hki : ¬ (k : Int) < (a.size : Int) := by omega
      go_wp2_with (fail)
      exact HPost.out _ _ rfl HW.out
end Go.Proofs.YteggbpaljmopoaaGreat
/- backflushref06: Div, Gcd, Of. -/
namespace Go.Proofs.YteggbpaljmopoaaGreat
open Go.RowKit BF

theorem chk2_nat {x y : Nat} (hx : small x) (hy : small y) (w : World) : Calls Tryz.prog 69 #[.string (nat x), .string (nat y)] w fun e w' => e = .returned (.int .i64 0) ∧ w' = w := by
  have h1 : (nat x).size ≤ maxLen := by have : (nat x).size ≤ 256 := hx; unfold maxLen; omega
  have h2 : (nat y).size ≤ maxLen := by have : (nat y).size ≤ 256 := hy; unfold maxLen; omega
  have h := rboth_any (nat x) (nat y) w h1 h2
  rwa [chk_nat2 hx hy] at h
theorem rdivide_nat {x y : Nat} (hx : small x) (hy : small y) (h0 : 0 < y) (w : World) :
    Calls Tryz.prog 70 #[.string (nat x), .string (nat y)] w fun e w' => e = .returned (.tuple #[.string (nat (x / y)), .string (nat (x % y))]) ∧ Below w.heap.size w w' := by
  have h := rdivide_any (nat x) (nat y) (natB_nat y) (by rw [val_nat]; exact h0) hx hy w
  unfold DivPost at h
  rwa [val_nat, val_nat] at h
/-- a text that is not empty -/
theorem nat_full {y : Nat} (h : 0 < y) : (nat y).toList ≠ [] ∧ (nat y).toList.isEmpty = false := by
  have h1 := nat_size_pos h
  have h2 : (nat y).toList ≠ [] := by
    intro h3
    apply h1
    have : (nat y).toList.length = 0 := by rw [h3]; rfl
    rw [ByteArray.toList_eq] at this
    simpa using this
  exact ⟨h2, by simpa using h2⟩
set_option maxRecDepth 100000 in
set_option maxHeartbeats 1000000 in
theorem rDiv_nat {x y : Nat} (hx : small x) (hy : small y) (h0 : 0 < y) (w : World) :
    Calls Tryz.prog 71 #[.string (nat x), .string (nat y)] w fun e w' => e = .returned (.tuple #[.string (nat (x / y)), .string (nat (x % y)), .int .i64 0]) ∧ Below w.heap.size w w' := by
  have HB := Lib.hid (fun w => chk2_nat hx hy w)
  have HD := Lib.hid (fun w => rdivide_nat hx hy h0 w)
  obtain ⟨hy1, hy2⟩ := nat_full h0
  generalize nat (x / y) = Q at *
  generalize nat (x % y) = R at *
  generalize nat x = X at *
  generalize nat y = Y at *
  clear hx hy h0
  go_enter Tryz.func71, Tryz.ntmps71
  go_wp2_with (fail)
  refine (HB.out _).mono ?_
  rintro e w1 ⟨rfl, rfl⟩
  go_wp2_with (fail)
  refine (HD.out _).mono ?_
  rintro e w2 ⟨rfl, hb⟩
  have HW := Lib.hid hb
  clear hb
  go_wp2
  go_ret3
  exact ⟨rfl, HW.out⟩
def natOf : Value → Nat | .string s => val s | _ => 0
theorem natOf_nat (x : Nat) : natOf (.string (nat x)) = x := val_nat x
set_option maxRecDepth 100000 in
set_option maxHeartbeats 1000000 in
theorem rGcd_nat {x y : Nat} (hx : small x) (hy : small y) (w : World) :
    Calls Tryz.prog 44 #[.string (nat x), .string (nat y)] w fun e w' => e = .returned (.tuple #[.string (nat (Nat.gcd x y)), .int .i64 0]) ∧ Below w.heap.size w w' := by
  have HB := Lib.hid (fun w => chk2_nat hx hy w)
  obtain ⟨g, hg⟩ : ∃ g, Nat.gcd x y = g := ⟨_, rfl⟩
  have HG := Lib.hid hg
  rw [hg]
  obtain ⟨X, hX⟩ : ∃ X, nat x = X := ⟨_, rfl⟩
  obtain ⟨Y, hY⟩ : ∃ Y, nat y = Y := ⟨_, rfl⟩
  have HX := Lib.hid hX
  have HY := Lib.hid hY
  have HSX : Hid (small x) := hx
  have HSY : Hid (small y) := hy
  obtain ⟨G, hG⟩ : ∃ G, nat g = G := ⟨_, rfl⟩
  have HGG := Lib.hid hG
  rw [hG]
  rw [hX, hY] at HB ⊢
  clear hx hy hg hX hY hG
  go_enter Tryz.func44, Tryz.ntmps44
  go_wp2_with (fail)
  refine (HB.out _).mono ?_
  rintro e w1 ⟨rfl, rfl⟩
  go_wp2_with (fail)
  go_loopw [0, 1] (fun a b wr => ∃ p q : Nat, a = .string (nat p) ∧ b = .string (nat q) ∧ Hid (Nat.gcd p q = g) ∧ Hid (small p) ∧ Hid (small q) ∧ Hid (Below w1.heap.size w1 wr)) (fun _ b _ => natOf b)
  case atStart => exact ⟨x, y, by rw [HX.out], by rw [HY.out], HG.out, HSX.out, HSY.out, Below.refl _ _⟩
  case round =>
    obtain ⟨p, q, rfl, rfl, HPQ, HP, HQ, HW⟩ := hrel
    rcases Nat.eq_zero_or_pos q with hq | hq
    · subst hq
      have hpg : p = g := by have := HPQ.out; rwa [Nat.gcd_zero_right] at this
      have e0 : nat 0 = ({ data := #[] } : ByteArray) := rfl
      have HR : Hid (nat p = G) := by show _ = _; rw [hpg]; exact HGG.out
      rw [e0]
      generalize nat p = P at *
      clear hpg
      go_wp2
      go_ret2
      exact ⟨by rw [← HR.out]; rfl, HW.out⟩
    · obtain ⟨hy1, hy2⟩ := nat_full hq
      have HD := Lib.hid (fun w => rdivide_nat HP.out HQ.out hq w)
      have HS : Hid (natOf (.string (nat (p % q))) < natOf (.string (nat q))) := by show _ < _; rw [natOf_nat, natOf_nat]; exact Nat.mod_lt _ hq
      have HN : Hid (Nat.gcd q (p % q) = g) := by show _ = _; rw [← HPQ.out, Nat.gcd_comm p q, Nat.gcd_rec q p, Nat.gcd_comm]
      have HM : Hid (small (p % q)) := small_mono HP.out (Nat.mod_le _ _)
      obtain ⟨R, hR⟩ : ∃ R, nat (p % q) = R := ⟨_, rfl⟩
      obtain ⟨S, hS⟩ : ∃ S, nat q = S := ⟨_, rfl⟩
      have HRR := Lib.hid hR
      have HSS := Lib.hid hS
      rw [hR, hS] at HD HS
      rw [hS] at hy1 hy2 ⊢
      generalize nat (p / q) = U at *
      generalize nat p = P at *
      clear hq hR hS
      go_wp2_with (fail)
      refine (HD.out _).mono ?_
      rintro e w2 ⟨rfl, hb⟩
      have HW2 : Hid (Below w1.heap.size w1 w2) := HW.out.trans (hb.mono HW.out.size)
      clear hb
      go_wp2_with (fail)
      exact ⟨⟨q, p % q, by rw [HSS.out], by rw [HRR.out], HN.out, HQ.out, HM.out, HW2.out⟩, HS.out⟩
end Go.Proofs.YteggbpaljmopoaaGreat
/- backflushref06: Add, Of, Int. PRINTED BY wip/gen_ref06.py -/
namespace Go.Proofs.YteggbpaljmopoaaGreat
open Go.RowKit BF

theorem val_add_lt (a b : ByteArray) {k : Nat} (h1 : a.size ≤ k) (h2 : b.size ≤ k) : (val a : Int) + (val b : Int) < 256 ^ (k + 1) := by
  have h3 := Int.lt_of_lt_of_le (val_lt_pow a) (pow256_mono h1)
  have h4 := Int.lt_of_lt_of_le (val_lt_pow b) (pow256_mono h2)
  rw [Int.pow_succ]
  generalize (256 : Int) ^ k = p at *
  omega
set_option maxRecDepth 100000 in
set_option maxHeartbeats 4000000 in
theorem rAdd_core (a b : ByteArray) (na : natB a = true) (nb : natB b = true) (ha : a.size ≤ 256) (hb : b.size ≤ 256) (w : World) :
    Calls Tryz.prog 73 #[.string a, .string b] w fun e w' => e = .returned (.tuple #[.string (shortS (val a + val b)), .int .i64 (shortE (val a + val b))]) ∧ Below w.heap.size w w' := by
  have hpure : ∀ w : World, (pure #[] : Sem (Array Value)).run Tryz.prog w = .ok #[] w := fun _ => rfl
  have hst0 : ∀ (a : Addr) (w : World), (storeCells a []).run Tryz.prog w = .ok () w := fun _ _ => rfl
  obtain ⟨i0, hi, hz0, hz1, hz2⟩ := info_parts info_int
  have hbo := rboth_any a b w (by unfold maxLen; omega) (by unfold maxLen; omega)
  rw [chk_two, if_pos ⟨na, nb⟩, if_pos ⟨ha, hb⟩] at hbo
  have HBO := Lib.hid hbo
  have HD1 := Lib.hid (fun w => rdigits_any a (by omega) w)
  have HD2 := Lib.hid (fun w => rdigits_any b (by omega) w)
  clear na nb hbo
  obtain ⟨X, hX⟩ : ∃ X, digZ a.data.toList = X := ⟨_, rfl⟩
  obtain ⟨Y, hY⟩ : ∃ Y, digZ b.data.toList = Y := ⟨_, rfl⟩
  have HXD : Hid (digs8 X) := by rw [← hX]; exact digs8_digZ _
  have HYD : Hid (digs8 Y) := by rw [← hY]; exact digs8_digZ _
  have HXV : Hid (valZ X = (val a : Int)) := by rw [← hX]; exact valZ_digZ _
  have HYV : Hid (valZ Y = (val b : Int)) := by rw [← hY]; exact valZ_digZ _
  obtain ⟨n, hn⟩ : ∃ n, a.size = n := ⟨_, rfl⟩
  obtain ⟨m, hm⟩ : ∃ m, b.size = m := ⟨_, rfl⟩
  have HXL : Hid (X.length = n) := by rw [← hX, ← hn]; exact digZ_len _
  have HYL : Hid (Y.length = m) := by rw [← hY, ← hm]; exact digZ_len _
  have HXN : Hid (X.length ≤ 1000) := by show _ ≤ _; rw [HXL.out]; omega
  have HYN : Hid (Y.length ≤ 1000) := by show _ ≤ _; rw [HYL.out]; omega
  rcases Nat.lt_or_ge n m with hc | hc
  · have hci : (n : Int) < (m : Int) := by omega
    have hnx : n ≤ m := by omega
    have hm2 : m ≤ m := by omega
    have hm3 : m ≤ 256 := by omega
    have hpw := val_add_lt a b (k := m) (by omega) (by omega)
    have HPW := Lib.hid hpw
    clear hpw
    have hln : (enc (val a + val b)).length ≤ m + 1 := by
      rw [enc_length_le_iff]
      have := HPW.out
      rw [← Int.natCast_add] at this
      exact_mod_cast this
    have HSH := Lib.hid (fun w => rshort_nat (val a + val b) w (by unfold maxLen; omega))
    have hva : ((val a : Int) + (val b : Int)).toNat = val a + val b := by omega
    have HVA := Lib.hid hva
    clear hva hln
    generalize val a + val b = r at *
    generalize shortS r = S at *
    generalize shortE r = E at *
    generalize val a = va at *
    generalize val b = vb at *
    unfold DigPost at HD1 HD2
    rw [hX] at HD1
    rw [hY] at HD2
    rw [hn] at ha
    rw [hm] at hb
    clear hX hY hn hm
    go_enter Tryz.func73, Tryz.ntmps73
    go_wp2_with (fail)
    refine HBO.out.mono ?_
    rintro e w0 ⟨rfl, rfl⟩
    go_wp2_with (fail)
    refine (HD1.out _).mono ?_
    rintro e w1 ⟨vx, rfl, hx, hw1⟩
    have HX := Lib.hid hx
    have HW1 := Lib.hid hw1
    clear hx hw1
    obtain ⟨ax, cx, hvx, -⟩ := zs_form HX.out
    rw [HXL.out] at hvx
    subst hvx
    go_wp2_with (fail)
    refine (HD2.out _).mono ?_
    rintro e w2 ⟨vy, rfl, hy, hw2⟩
    have HY2 := Lib.hid hy
    have HW2 := Lib.hid hw2
    clear hy hw2
    obtain ⟨ay, cy, hvy, -⟩ := zs_form HY2.out
    rw [HYL.out] at hvy
    subst hvy
    have HX2 := Lib.hid (zs_under HX.out HW2.out)
    clear HX
    go_wp2_with (fail)
    go_loopw [9, 10] (fun l i wr => ∃ (k : Nat) (out : List Int), k ≤ m ∧ i = .int .i64 (k : Int) ∧ Hid (zs wr w2.heap.size l out) ∧ Hid (ComRel (1) X Y out k) ∧ Hid (Below w2.heap.size w2 wr)) (fun _ i _ => m - (intOf i).toNat)
    case atStart => exact ⟨0, [], Nat.zero_le _, rfl, zs_new w2 _ (Nat.le_refl _), com_start _ _ _, (Below.refl _ w2).alloc (Nat.le_refl _) _⟩
    case round =>
      obtain ⟨k, out, hk, rfl, HO, HC, HW⟩ := hrel
      obtain ⟨ab, cp, hba, hbn⟩ := zs_form HO.out
      subst hba
      have hol : out.length = k := HC.out.len
      by_cases hkn : k < m
      · have hki : (k : Int) < (m : Int) := by omega
        have HA := Lib.hid (rat_any _ X k _ wr (zs_under HX2.out HW.out) HXN.out (by omega))
        have HB := Lib.hid (rat_any _ Y k _ wr (zs_under HY2.out HW.out) HYN.out (by omega))
        have hx := digs8_getD HXD.out k
        have hy := digs8_getD HYD.out k
        have HS : Hid (∀ d, d = X.getD k 0 + (1) * Y.getD k 0 → -255 ≤ d → d ≤ 100000000 → Hid (ComRel (1) X Y (out ++ [d]) (k + 1))) := fun d h1 h2 h3 => com_step HC.out d h1 h2 h3
        generalize X.getD k 0 = dx at *
        generalize Y.getD k 0 = dy at *
        have hx1 := hx.1
        have hx2 := hx.2
        have hy1 := hy.1
        have hy2 := hy.2
        have HS1 := HS.out (dx + dy) (by omega) (by omega) (by omega)
        clear hx hy HS
        have hb3 := HO.out
        rw [hol] at hb3 ⊢
        have HK3 := Lib.hid hb3
        have hol2 : out.length ≤ 1000 := by omega
        clear hol
        have hsz3 := HW.out.size
        go_wp2_with (fail)
        refine HA.out.mono ?_
        rintro e w3 ⟨rfl, rfl⟩
        go_wp2_with (fail)
        refine HB.out.mono ?_
        rintro e w4 ⟨rfl, rfl⟩
        go_wp2_with (at_builtin; refine wpList_append_own _ rfl _ _ 23 rfl w2.heap.size 3 i0 (.int .i64 0) 1 8 Tryz.underlying23 hi hz0 hz1 hz2 rfl (by decide) _ _ _ rfl (zs_alloc hb3 _) ⟨_, 0, none⟩ 1 1 [_] rfl rfl (one_cell _ _ _) (one_one _ rfl) (by unfold maxLen; omega) (by omega) (by simp; omega) ?_; intro v' w5 hown' hgrow _; clear hb3)
        have hB2 : Below w2.heap.size w2 w5 := Below.grown (HW.out.alloc hsz3 _) hgrow (by simp; omega) (fun q hq => (World.ownsRow.lt HK3.out q hq).1)
        exact ⟨⟨k + 1, _, by omega, by go_num, zs_app hown', HS1, hB2⟩, by simp [intOf]; omega⟩
      · obtain rfl : k = m := by omega
        have hv := com_end HC.out (by rw [HXL.out]; omega) (by rw [HYL.out]; omega)
        rw [HXV.out, HYV.out] at hv
        have HCA := Lib.hid (rcarry_any _ out _ (k + 1) wr HO.out HC.out.bound (by omega) (by omega) (by rw [hv]; omega) (by rw [hv]; rw [Int.one_mul]; exact HPW.out))
        rw [hol] at HCA ⊢
        have HV := Lib.hid hv
        clear hv
        go_wp2_with (fail)
        refine HCA.out.mono ?_
        rintro e w3 ⟨v3, o3, rfl, hz3, hd3, hv3, hl3, hB3⟩
        have HNU := Lib.hid (rnumber_any v3 o3 _ w3 hz3 hd3 (by omega))
        rw [hv3, HV.out, Int.one_mul, HVA.out] at HNU
        have HB3 := Lib.hid hB3
        clear hz3 hd3 hv3 hl3 hB3
        go_wp2_with (fail)
        refine HNU.out.mono ?_
        rintro e w4 ⟨rfl, hB4⟩
        have HBA := Lib.hid ((HW1.out.trans (HW2.out.mono HW1.out.size)).trans ((HW.out.mono (Nat.le_trans HW1.out.size HW2.out.size)).trans ((HB3.out.trans (hB4.mono HB3.out.size)).mono (Nat.le_trans (Nat.le_trans HW1.out.size HW2.out.size) HW.out.size))))
        clear hB4
        go_wp2_with (fail)
        refine (HSH.out _).mono ?_
        rintro e w5 ⟨rfl, rfl⟩
        go_wp2
        go_ret2
        exact ⟨rfl, HBA.out⟩
  · have hci : ¬ (n : Int) < (m : Int) := by omega
    have hnx : n ≤ n := by omega
    have hmn : m ≤ n := by omega
    have hn3 : n ≤ 256 := by omega
    have hpw := val_add_lt a b (k := n) (by omega) (by omega)
    have HPW := Lib.hid hpw
    clear hpw
    have hln : (enc (val a + val b)).length ≤ n + 1 := by
      rw [enc_length_le_iff]
      have := HPW.out
      rw [← Int.natCast_add] at this
      exact_mod_cast this
    have HSH := Lib.hid (fun w => rshort_nat (val a + val b) w (by unfold maxLen; omega))
    have hva : ((val a : Int) + (val b : Int)).toNat = val a + val b := by omega
    have HVA := Lib.hid hva
    clear hva hln
    generalize val a + val b = r at *
    generalize shortS r = S at *
    generalize shortE r = E at *
    generalize val a = va at *
    generalize val b = vb at *
    unfold DigPost at HD1 HD2
    rw [hX] at HD1
    rw [hY] at HD2
    rw [hn] at ha
    rw [hm] at hb
    clear hX hY hn hm
    go_enter Tryz.func73, Tryz.ntmps73
    go_wp2_with (fail)
    refine HBO.out.mono ?_
    rintro e w0 ⟨rfl, rfl⟩
    go_wp2_with (fail)
    refine (HD1.out _).mono ?_
    rintro e w1 ⟨vx, rfl, hx, hw1⟩
    have HX := Lib.hid hx
    have HW1 := Lib.hid hw1
    clear hx hw1
    obtain ⟨ax, cx, hvx, -⟩ := zs_form HX.out
    rw [HXL.out] at hvx
    subst hvx
    go_wp2_with (fail)
    refine (HD2.out _).mono ?_
    rintro e w2 ⟨vy, rfl, hy, hw2⟩
    have HY2 := Lib.hid hy
    have HW2 := Lib.hid hw2
    clear hy hw2
    obtain ⟨ay, cy, hvy, -⟩ := zs_form HY2.out
    rw [HYL.out] at hvy
    subst hvy
    have HX2 := Lib.hid (zs_under HX.out HW2.out)
    clear HX
    go_wp2_with (fail)
    go_loopw [9, 10] (fun l i wr => ∃ (k : Nat) (out : List Int), k ≤ n ∧ i = .int .i64 (k : Int) ∧ Hid (zs wr w2.heap.size l out) ∧ Hid (ComRel (1) X Y out k) ∧ Hid (Below w2.heap.size w2 wr)) (fun _ i _ => n - (intOf i).toNat)
    case atStart => exact ⟨0, [], Nat.zero_le _, rfl, zs_new w2 _ (Nat.le_refl _), com_start _ _ _, (Below.refl _ w2).alloc (Nat.le_refl _) _⟩
    case round =>
      obtain ⟨k, out, hk, rfl, HO, HC, HW⟩ := hrel
      obtain ⟨ab, cp, hba, hbn⟩ := zs_form HO.out
      subst hba
      have hol : out.length = k := HC.out.len
      by_cases hkn : k < n
      · have hki : (k : Int) < (n : Int) := by omega
        have HA := Lib.hid (rat_any _ X k _ wr (zs_under HX2.out HW.out) HXN.out (by omega))
        have HB := Lib.hid (rat_any _ Y k _ wr (zs_under HY2.out HW.out) HYN.out (by omega))
        have hx := digs8_getD HXD.out k
        have hy := digs8_getD HYD.out k
        have HS : Hid (∀ d, d = X.getD k 0 + (1) * Y.getD k 0 → -255 ≤ d → d ≤ 100000000 → Hid (ComRel (1) X Y (out ++ [d]) (k + 1))) := fun d h1 h2 h3 => com_step HC.out d h1 h2 h3
        generalize X.getD k 0 = dx at *
        generalize Y.getD k 0 = dy at *
        have hx1 := hx.1
        have hx2 := hx.2
        have hy1 := hy.1
        have hy2 := hy.2
        have HS1 := HS.out (dx + dy) (by omega) (by omega) (by omega)
        clear hx hy HS
        have hb3 := HO.out
        rw [hol] at hb3 ⊢
        have HK3 := Lib.hid hb3
        have hol2 : out.length ≤ 1000 := by omega
        clear hol
        have hsz3 := HW.out.size
        go_wp2_with (fail)
        refine HA.out.mono ?_
        rintro e w3 ⟨rfl, rfl⟩
        go_wp2_with (fail)
        refine HB.out.mono ?_
        rintro e w4 ⟨rfl, rfl⟩
        go_wp2_with (at_builtin; refine wpList_append_own _ rfl _ _ 23 rfl w2.heap.size 3 i0 (.int .i64 0) 1 8 Tryz.underlying23 hi hz0 hz1 hz2 rfl (by decide) _ _ _ rfl (zs_alloc hb3 _) ⟨_, 0, none⟩ 1 1 [_] rfl rfl (one_cell _ _ _) (one_one _ rfl) (by unfold maxLen; omega) (by omega) (by simp; omega) ?_; intro v' w5 hown' hgrow _; clear hb3)
        have hB2 : Below w2.heap.size w2 w5 := Below.grown (HW.out.alloc hsz3 _) hgrow (by simp; omega) (fun q hq => (World.ownsRow.lt HK3.out q hq).1)
        exact ⟨⟨k + 1, _, by omega, by go_num, zs_app hown', HS1, hB2⟩, by simp [intOf]; omega⟩
      · obtain rfl : k = n := by omega
        have hv := com_end HC.out (by rw [HXL.out]; omega) (by rw [HYL.out]; omega)
        rw [HXV.out, HYV.out] at hv
        have HCA := Lib.hid (rcarry_any _ out _ (k + 1) wr HO.out HC.out.bound (by omega) (by omega) (by rw [hv]; omega) (by rw [hv]; rw [Int.one_mul]; exact HPW.out))
        rw [hol] at HCA ⊢
        have HV := Lib.hid hv
        clear hv
        go_wp2_with (fail)
        refine HCA.out.mono ?_
        rintro e w3 ⟨v3, o3, rfl, hz3, hd3, hv3, hl3, hB3⟩
        have HNU := Lib.hid (rnumber_any v3 o3 _ w3 hz3 hd3 (by omega))
        rw [hv3, HV.out, Int.one_mul, HVA.out] at HNU
        have HB3 := Lib.hid hB3
        clear hz3 hd3 hv3 hl3 hB3
        go_wp2_with (fail)
        refine HNU.out.mono ?_
        rintro e w4 ⟨rfl, hB4⟩
        have HBA := Lib.hid ((HW1.out.trans (HW2.out.mono HW1.out.size)).trans ((HW.out.mono (Nat.le_trans HW1.out.size HW2.out.size)).trans ((HB3.out.trans (hB4.mono HB3.out.size)).mono (Nat.le_trans (Nat.le_trans HW1.out.size HW2.out.size) HW.out.size))))
        clear hB4
        go_wp2_with (fail)
        refine (HSH.out _).mono ?_
        rintro e w5 ⟨rfl, rfl⟩
        go_wp2
        go_ret2
        exact ⟨rfl, HBA.out⟩
end Go.Proofs.YteggbpaljmopoaaGreat
/- backflushref06: Int, Of. -/
namespace Go.Proofs.YteggbpaljmopoaaGreat
open Go.RowKit BF

theorem dec_prefix (l : List UInt8) (k : Nat) : dec (l.take k) ≤ dec l := by
  have e : dec l = dec (l.take k ++ l.drop k) := by rw [List.take_append_drop]
  rw [e, dec_append]
  have h : 1 ≤ 256 ^ (l.drop k).length := Nat.one_le_pow _ _ (by decide)
  have h2 := Nat.mul_le_mul_left (dec (l.take k)) h
  omega
theorem dec_eight {s : ByteArray} (h : s.size = 8) (h0 : 0 < s.size) : 128 ≤ s[0].toNat ↔ 9223372036854775807 < val s := by
  have hl : s.data.toList.length = 8 := h
  have e : val s = dec (s.data.toList.take 1 ++ s.data.toList.drop 1) := by rw [List.take_append_drop]; rfl
  rw [e, dec_append]
  have h1 := int_step s.data.toList 0 (by rw [hl]; decide)
  have h2 := dec_lt (s.data.toList.drop 1)
  have h3 : (s.data.toList.drop 1).length = 7 := by rw [List.length_drop, hl]
  rw [h3] at h2 ⊢
  have h4 : dec (s.data.toList.take 1) = s[0].toNat := by
    rw [show (1 : Nat) = 0 + 1 from rfl, h1]
    rw [List.take_zero]
    show 256 * 0 + _ = _
    rw [Nat.mul_zero, Nat.zero_add]
    rfl
  rw [h4]
  have h5 : (256 : Nat) ^ 7 = 72057594037927936 := by decide
  rw [h5] at h2 ⊢
  generalize dec (s.data.toList.drop 1) = t at *
  generalize s[0].toNat = x at *
  omega
set_option maxRecDepth 100000 in
set_option maxHeartbeats 1000000 in
theorem rInt_any (s : ByteArray) (hn : natB s = true) (hs : s.size ≤ maxLen) (w : World) :
    Calls Tryz.prog 104 #[.string s] w fun e w' => e = .returned (.tuple #[.int .i64 (intV s), .bool (intOk s)]) ∧ Below w.heap.size w w' := by
  have HNAT := Lib.hid (rNatural_any s w hs)
  rw [hn] at HNAT
  unfold maxLen at hs
  have hok : intOk s = (decide (s.size ≤ 8) && decide (val s ≤ 9223372036854775807)) := by unfold intOk; rw [hn]; rfl
  have HW : Hid (intV s = if intOk s then (val s : Int) else 0) := rfl
  by_cases h8 : 8 < s.size
  · have hK : intOk s = false := by rw [hok, decide_eq_false (by omega)]; rfl
    have h8i : (8 : Int) < (s.size : Int) := by omega
    have HV : Hid (intV s = 0) := by show _ = _; rw [HW.out, hK]; rfl
    rw [HV.out, hK]
    clear hok HW hK HV hn
    go_enter Tryz.func104, Tryz.ntmps104
    go_wp2_with (fail)
    refine HNAT.out.mono ?_
    rintro e w1 ⟨rfl, rfl⟩
    go_wp2
    go_ret2
    exact ⟨rfl, Below.refl _ _⟩
  · have h8i : ¬ (8 : Int) < (s.size : Int) := by omega
    rw [decide_eq_true (by omega), Bool.true_and] at hok
    by_cases hbig : 9223372036854775807 < val s
    · have h88 : s.size = 8 := by
        rcases Nat.lt_or_ge s.size 8 with h | h
        · exfalso
          have h1 := dec_lt s.data.toList
          have h2 : s.data.toList.length = s.size := rfl
          rw [h2] at h1
          have h3 : (256 : Nat) ^ s.size ≤ 256 ^ 7 := Nat.pow_le_pow_right (by decide) (by omega)
          have h4 : (256 : Nat) ^ 7 = 72057594037927936 := by decide
          have h5 : val s = dec s.data.toList := rfl
          rw [h4] at h3
          generalize (256 : Nat) ^ s.size = p at *
          omega
        · omega
      have h0 : 0 < s.size := by omega
      have hx := (dec_eight h88 h0).2 hbig
      have hK : intOk s = false := by rw [hok, decide_eq_false (by omega)]
      have HV : Hid (intV s = 0) := by show _ = _; rw [HW.out, hK]; rfl
      rw [HV.out, hK]
      have hxi : (128 : Int) ≤ (s[0].toNat : Int) := by omega
      have hei : ((s.size : Int) == 8) = true := by rw [h88]; rfl
      clear hok HW hK HV hn hbig h88 hx
      go_enter Tryz.func104, Tryz.ntmps104
      go_wp2_with (fail)
      refine HNAT.out.mono ?_
      rintro e w1 ⟨rfl, rfl⟩
      go_wp2
      go_ret2
      exact ⟨rfl, Below.refl _ _⟩
    · have hK : intOk s = true := by rw [hok, decide_eq_true (by omega)]
      have HV : Hid (intV s = (val s : Int)) := by show _ = _; rw [HW.out, hK]; rfl
      have HB : Hid (val s ≤ 9223372036854775807) := by show _ ≤ _; omega
      rw [HV.out, hK]
      obtain ⟨va, hva⟩ : ∃ va, val s = va := ⟨_, rfl⟩
      have HVA : Hid (dec s.data.toList = va) := hva
      rw [hva] at HB ⊢
      have HL : Hid (s.data.toList.length = s.size) := rfl
      by_cases h88 : s.size = 8
      · have h0 : 0 < s.size := by omega
        have hx : ¬ 128 ≤ s[0].toNat := fun h => hbig ((dec_eight h88 h0).1 h)
        have hxi : ¬ (128 : Int) ≤ (s[0].toNat : Int) := by omega
        have hei : ((s.size : Int) == 8) = true := by rw [h88]; rfl
        clear hok HW hK HV hn hbig h88 hx hva
        go_enter Tryz.func104, Tryz.ntmps104
        go_wp2_with (fail)
        refine HNAT.out.mono ?_
        rintro e w1 ⟨rfl, rfl⟩
        go_wp2_with (fail)
        go_loopw [4, 5] (fun u i wr => ∃ k x : Nat, k ≤ s.size ∧ i = .int .i64 (k : Int) ∧ u = .int .i64 (x : Int) ∧ Hid (x = dec (s.data.toList.take k)) ∧ wr = w1) (fun _ i _ => s.size - (intOf i).toNat)
        case atStart => exact ⟨0, 0, Nat.zero_le _, rfl, rfl, rfl, rfl⟩
        case round =>
          obtain ⟨k, x, hk, rfl, rfl, HX, rfl⟩ := hrel
          by_cases hkn : k < s.size
          · have hst := int_step s.data.toList k (by rw [HL.out]; exact hkn)
            rw [← HX.out] at hst
            have hle := dec_prefix s.data.toList (k + 1)
            rw [HVA.out] at hle
            have hst2 : 256 * x + s[k].toNat ≤ 9223372036854775807 := by have h1 := HB.out; have h2 : dec (s.data.toList.take (k + 1)) = 256 * x + s[k].toNat := hst; omega
            have HST : Hid (256 * x + s[k].toNat = dec (s.data.toList.take (k + 1))) := hst.symm
            clear hst hle
            have hbb := (s[k]).toNat_lt
            go_wp2
            exact ⟨⟨k + 1, 256 * x + s[k].toNat, by omega, by go_num, by go_num, HST, trivial⟩, by simp [intOf]; omega⟩
          · obtain rfl : k = s.size := by omega
            have hxv : x = va := by rw [HX.out, ← HVA.out, ← HL.out, List.take_length]
            subst hxv
            have hkk : ¬ s.size < s.size := Nat.lt_irrefl _
            go_wp2
            go_ret2
            exact ⟨rfl, Below.refl _ _⟩
      · have hei : ((s.size : Int) == 8) = false := by simp; omega
        clear hok HW hK HV hn hbig h88 hva
        go_enter Tryz.func104, Tryz.ntmps104
        go_wp2_with (fail)
        refine HNAT.out.mono ?_
        rintro e w1 ⟨rfl, rfl⟩
        go_wp2_with (fail)
        go_loopw [4, 5] (fun u i wr => ∃ k x : Nat, k ≤ s.size ∧ i = .int .i64 (k : Int) ∧ u = .int .i64 (x : Int) ∧ Hid (x = dec (s.data.toList.take k)) ∧ wr = w1) (fun _ i _ => s.size - (intOf i).toNat)
        case atStart => exact ⟨0, 0, Nat.zero_le _, rfl, rfl, rfl, rfl⟩
        case round =>
          obtain ⟨k, x, hk, rfl, rfl, HX, rfl⟩ := hrel
          by_cases hkn : k < s.size
          · have hst := int_step s.data.toList k (by rw [HL.out]; exact hkn)
            rw [← HX.out] at hst
            have hle := dec_prefix s.data.toList (k + 1)
            rw [HVA.out] at hle
            have hst2 : 256 * x + s[k].toNat ≤ 9223372036854775807 := by have h1 := HB.out; have h2 : dec (s.data.toList.take (k + 1)) = 256 * x + s[k].toNat := hst; omega
            have HST : Hid (256 * x + s[k].toNat = dec (s.data.toList.take (k + 1))) := hst.symm
            clear hst hle
            have hbb := (s[k]).toNat_lt
            go_wp2
            exact ⟨⟨k + 1, 256 * x + s[k].toNat, by omega, by go_num, by go_num, HST, trivial⟩, by simp [intOf]; omega⟩
          · obtain rfl : k = s.size := by omega
            have hxv : x = va := by rw [HX.out, ← HVA.out, ← HL.out, List.take_length]
            subst hxv
            have hkk : ¬ s.size < s.size := Nat.lt_irrefl _
            go_wp2
            go_ret2
            exact ⟨rfl, Below.refl _ _⟩
end Go.Proofs.YteggbpaljmopoaaGreat
