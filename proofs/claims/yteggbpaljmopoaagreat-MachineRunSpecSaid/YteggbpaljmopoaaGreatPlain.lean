/- The naturals and the ratios in plain terms: what a string of bytes is worth, and back. Conditions: those that each theorem states. -/
set_option linter.unusedVariables false
set_option linter.unusedSimpArgs false
/- Plain laws on natural numbers: bytes to the base 256, digits to the base 2^32. No program in sight. -/
namespace BF

/-- the base of the digits -/
abbrev B : Nat := 4294967296

/-- the value of bytes, the most significant one first -/
def dec (l : List UInt8) : Nat := l.foldl (fun a b => 256 * a + b.toNat) 0

/-- the value of digits, the least significant one first -/
def valw : List Nat → Nat
  | [] => 0
  | d :: l => d + B * valw l

/-- all digits are digits -/
def digs (l : List Nat) : Prop := ∀ d ∈ l, d < B

/-- digits without zeros at the end -/
def canon (l : List Nat) : Prop := digs l ∧ l.getLast? ≠ some 0

def encF : Nat → Nat → List UInt8 → List UInt8
  | 0, _, acc => acc
  | k + 1, n, acc => if n = 0 then acc else encF k (n / 256) (UInt8.ofNat n :: acc)

/-- the bytes of a number, the most significant one first, without zeros at the beginning -/
def enc (n : Nat) : List UInt8 := encF (n.log2 / 8 + 1) n []

def natural (l : List UInt8) : Bool := l.head? != some 0

theorem dec_nil : dec [] = 0 := rfl

theorem dec_snoc (l : List UInt8) (b : UInt8) : dec (l ++ [b]) = 256 * dec l + b.toNat := by
  simp [dec]

theorem lt_pow_log (n : Nat) : n < 256 ^ (n.log2 / 8 + 1) := by
  have h1 : n < 2 ^ (n.log2 + 1) := Nat.lt_log2_self
  have h2 : (256 : Nat) ^ (n.log2 / 8 + 1) = 2 ^ (8 * (n.log2 / 8 + 1)) := by rw [Nat.pow_mul]
  rw [h2]
  exact Nat.lt_of_lt_of_le h1 (Nat.pow_le_pow_right (by omega) (by omega))

theorem encF_acc (k n : Nat) (acc : List UInt8) : encF k n acc = encF k n [] ++ acc := by
  induction k generalizing n acc with
  | zero => simp [encF]
  | succ k ih =>
    simp only [encF]
    split
    · simp
    · rw [ih, ih _ [_]]; simp

theorem encF_stable (k m n : Nat) (h : n < 256 ^ k) (hk : k ≤ m) : encF m n [] = encF k n [] := by
  induction k generalizing m n with
  | zero =>
    have : n = 0 := by simpa using h
    subst this
    cases m <;> simp [encF]
  | succ k ih =>
    cases m with
    | zero => omega
    | succ m =>
      simp only [encF]
      split
      · rfl
      · rw [encF_acc, encF_acc k, ih m (n / 256) _ (by omega)]
        rw [Nat.div_lt_iff_lt_mul (by omega), ← Nat.pow_succ]; exact h

theorem enc_eq (k n : Nat) (h : n < 256 ^ k) : enc n = encF k n [] := by
  unfold enc
  rcases Nat.le_total k (n.log2 / 8 + 1) with hk | hk
  · exact encF_stable _ _ _ h hk
  · exact (encF_stable _ _ _ (lt_pow_log n) hk).symm

theorem enc_zero : enc 0 = [] := rfl

theorem ofNat_mod (m d : Nat) : UInt8.ofNat (256 * m + d) = UInt8.ofNat d := by
  apply UInt8.toNat_inj.1
  simp

theorem enc_snoc (m d : Nat) (hd : d < 256) (h : 256 * m + d ≠ 0) : enc (256 * m + d) = enc m ++ [UInt8.ofNat d] := by
  have hm : m < 256 ^ (m.log2 / 8 + 1) := lt_pow_log m
  have h1 : 256 * m + d < 256 ^ (m.log2 / 8 + 1 + 1) := by
    rw [Nat.pow_succ]; omega
  rw [enc_eq _ _ h1, enc_eq _ m hm]
  rw [encF, if_neg h, encF_acc, show (256 * m + d) / 256 = m by omega, ofNat_mod m d]

theorem enc_ne_nil (n : Nat) (h : n ≠ 0) : enc n ≠ [] := by
  have := enc_snoc (n / 256) (n % 256) (by omega) (by omega)
  rw [show 256 * (n / 256) + n % 256 = n by omega] at this
  rw [this]; simp

theorem dec_enc (n : Nat) : dec (enc n) = n := by
  induction n using Nat.strongRecOn with
  | _ n ih =>
    by_cases h : n = 0
    · subst h; rfl
    · have e := enc_snoc (n / 256) (n % 256) (by omega) (by omega)
      rw [show 256 * (n / 256) + n % 256 = n by omega] at e
      rw [e, dec_snoc, ih _ (by omega)]
      simp; omega

theorem enc_natural (n : Nat) : natural (enc n) = true := by
  induction n using Nat.strongRecOn with
  | _ n ih =>
    by_cases h : n = 0
    · subst h; rfl
    · have e := enc_snoc (n / 256) (n % 256) (by omega) (by omega)
      rw [show 256 * (n / 256) + n % 256 = n by omega] at e
      rw [e]
      have h2 := ih (n / 256) (by omega)
      by_cases h3 : n / 256 = 0
      · rw [h3]
        simp [natural, enc_zero]
        intro h4
        have := congrArg UInt8.toNat h4
        simp at this
        omega
      · have h5 := enc_ne_nil _ h3
        unfold natural at h2 ⊢
        cases h6 : enc (n / 256) with
      | nil => exact absurd h6 h5
      | cons a l => rw [h6] at h2; simpa using h2

theorem natural_snoc (l : List UInt8) (b : UInt8) (h : natural (l ++ [b]) = true) : natural l = true := by
  cases l with
  | nil => rfl
  | cons a l => simpa [natural] using h

theorem enc_dec (l : List UInt8) (h : natural l = true) : enc (dec l) = l := by
  obtain ⟨n, hn⟩ : ∃ n, n = l.length := ⟨_, rfl⟩
  induction n generalizing l with
  | zero => have : l = [] := List.length_eq_zero_iff.1 hn.symm
            subst this; rfl
  | succ n ih =>
    obtain ⟨l, b, rfl⟩ : ∃ l' b, l = l' ++ [b] := by
      have hne : l ≠ [] := by intro h; subst h; simp at hn
      exact ⟨l.dropLast, l.getLast hne, (List.dropLast_concat_getLast hne).symm⟩
    have ih := ih l
    have h1 := natural_snoc l b h
    have e := ih h1 (by simpa using hn)
    rw [dec_snoc]
    have hb : b.toNat < 256 := b.toNat_lt
    by_cases h0 : 256 * dec l + b.toNat = 0
    · exfalso
      have h3 : dec l = 0 := by omega
      rw [h3] at e
      rw [← e] at h
      have : b = 0 := by apply UInt8.toNat_inj.1; simp; omega
      subst this
      simp [natural, enc_zero] at h
    · rw [enc_snoc _ _ hb h0, e]
      simp

theorem enc_length_lt (n k : Nat) (h : n < 256 ^ k) : (enc n).length ≤ k := by
  rw [enc_eq k n h]
  have : ∀ k n acc, (encF k n acc).length ≤ k + acc.length := by
    intro k
    induction k with
    | zero => intro n acc; simp [encF]
    | succ k ih =>
      intro n acc
      simp only [encF]
      split
      · omega
      · exact Nat.le_trans (ih _ _) (by simp; omega)
  simpa using this k n []

theorem dec_lt (l : List UInt8) : dec l < 256 ^ l.length := by
  obtain ⟨n, hn⟩ : ∃ n, n = l.length := ⟨_, rfl⟩
  induction n generalizing l with
  | zero => have : l = [] := List.length_eq_zero_iff.1 hn.symm
            subst this; simp [dec]
  | succ n ih =>
    obtain ⟨l, b, rfl⟩ : ∃ l' b, l = l' ++ [b] := by
      have hne : l ≠ [] := by intro h; subst h; simp at hn
      exact ⟨l.dropLast, l.getLast hne, (List.dropLast_concat_getLast hne).symm⟩
    have := ih l (by simpa using hn)
    have hb : b.toNat < 256 := b.toNat_lt
    rw [dec_snoc]
    simp only [List.length_append, List.length_cons, List.length_nil, Nat.pow_succ, Nat.zero_add]
    omega

theorem enc_length_le_iff (n k : Nat) : (enc n).length ≤ k ↔ n < 256 ^ k := by
  constructor
  · intro h
    have := dec_lt (enc n)
    rw [dec_enc] at this
    exact Nat.lt_of_lt_of_le this (Nat.pow_le_pow_right (by omega) h)
  · exact enc_length_lt n k

theorem enc_inj {a b : Nat} (h : enc a = enc b) : a = b := by
  rw [← dec_enc a, h, dec_enc]

theorem enc_eq_nil {a : Nat} : enc a = [] ↔ a = 0 := by
  constructor
  · intro h; rw [← enc_zero] at h; exact enc_inj h
  · intro h; subst h; rfl

/-! digits -/

theorem valw_append (a b : List Nat) : valw (a ++ b) = valw a + B ^ a.length * valw b := by
  induction a with
  | nil => simp [valw]
  | cons d l ih =>
    simp only [List.cons_append, valw, ih, List.length_cons, Nat.pow_succ]
    rw [Nat.mul_add, ← Nat.mul_assoc, Nat.mul_comm (B ^ l.length) B, Nat.add_assoc]

theorem valw_lt (l : List Nat) (h : digs l) : valw l < B ^ l.length := by
  induction l with
  | nil => simp [valw]
  | cons d l ih =>
    have h1 := ih (fun x hx => h x (by simp [hx]))
    have h2 := h d (by simp)
    simp only [valw, List.length_cons, Nat.pow_succ]
    simp only [B] at *
    omega

theorem valw_snoc (l : List Nat) (d : Nat) : valw (l ++ [d]) = valw l + d * B ^ l.length := by
  rw [valw_append]
  simp [valw, Nat.mul_comm]

theorem valw_take_succ (l : List Nat) (k : Nat) (h : k < l.length) : valw (l.take (k + 1)) = valw (l.take k) + l.getD k 0 * B ^ k := by
  have : l.take (k + 1) = l.take k ++ [l.getD k 0] := by
    rw [List.take_succ_eq_append_getElem h]
    simp [h]
  rw [this, valw_snoc]
  simp [Nat.min_eq_left (Nat.le_of_lt h)]

theorem digs_take {l : List Nat} (h : digs l) (k : Nat) : digs (l.take k) := fun d hd => h d (List.mem_of_mem_take hd)

theorem digs_getD {l : List Nat} (h : digs l) (k : Nat) : l.getD k 0 < B := by
  by_cases hk : k < l.length
  · have := h l[k] (List.getElem_mem hk)
    simpa [hk] using this
  · simp [List.getD, List.getElem?_eq_none (Nat.le_of_not_lt hk)]

theorem digs_set {l : List Nat} (h : digs l) (k d : Nat) (hd : d < B) : digs (l.set k d) := by
  intro x hx
  rcases List.mem_or_eq_of_mem_set hx with h1 | h1
  · exact h x h1
  · subst h1; exact hd

theorem digs_snoc {l : List Nat} (h : digs l) {d : Nat} (hd : d < B) : digs (l ++ [d]) := by
  intro x hx
  rcases List.mem_append.1 hx with h1 | h1
  · exact h x h1
  · simp at h1; subst h1; exact hd

/-- a digit is exchanged -/
theorem valw_set (l : List Nat) (k d : Nat) (h : k < l.length) : valw (l.set k d) + l.getD k 0 * B ^ k = valw l + d * B ^ k := by
  induction l generalizing k with
  | nil => simp at h
  | cons a l ih =>
    cases k with
    | zero => simp [valw]; omega
    | succ k =>
      have := ih k (by simpa using h)
      simp only [List.set_cons_succ, valw, List.getD_cons_succ, Nat.pow_succ]
      have e1 : l.getD k 0 * (B ^ k * B) = B * (l.getD k 0 * B ^ k) := by
        rw [← Nat.mul_assoc, Nat.mul_comm]
      have e2 : d * (B ^ k * B) = B * (d * B ^ k) := by
        rw [← Nat.mul_assoc, Nat.mul_comm]
      rw [e1, e2]
      have : B * (valw (l.set k d) + l.getD k 0 * B ^ k) = B * (valw l + d * B ^ k) := by rw [this]
      rw [Nat.mul_add, Nat.mul_add] at this
      omega

theorem valw_replicate_zero (n : Nat) : valw (List.replicate n 0) = 0 := by
  induction n with
  | zero => rfl
  | succ n ih => simp [List.replicate_succ, valw, ih]

/-- a digit of the value -/
theorem valw_digit (l : List Nat) (h : digs l) (k : Nat) : l.getD k 0 = valw l / B ^ k % B := by
  induction l generalizing k with
  | nil => simp [valw]
  | cons a l ih =>
    have ha := h a (by simp)
    cases k with
    | zero => simp only [valw, List.getD_cons_zero, Nat.pow_zero, Nat.div_one]; simp only [B] at *; omega
    | succ k =>
      simp only [valw, List.getD_cons_succ, Nat.pow_succ]
      rw [ih (fun x hx => h x (by simp [hx])) k, Nat.mul_comm (B ^ k) B, ← Nat.div_div_eq_div_mul]
      congr 2
      simp only [B] at *
      omega

theorem valw_inj (a b : List Nat) (ha : digs a) (hb : digs b) (hl : a.length = b.length) (h : valw a = valw b) : a = b := by
  induction a generalizing b with
  | nil => cases b with
    | nil => rfl
    | cons => simp at hl
  | cons x a ih =>
    cases b with
    | nil => simp at hl
    | cons y b =>
      have hx := ha x (by simp)
      have hy := hb y (by simp)
      simp only [valw] at h
      simp only [B] at *
      have e1 : x = y := by omega
      subst e1
      have e2 : valw a = valw b := by omega
      rw [ih b (fun d hd => ha d (by simp [hd])) (fun d hd => hb d (by simp [hd])) (by simpa using hl) e2]

theorem canon_le (l : List Nat) (h : canon l) (hne : l ≠ []) : B ^ (l.length - 1) ≤ valw l := by
  obtain ⟨l', d, rfl⟩ : ∃ l' d, l = l' ++ [d] := ⟨l.dropLast, l.getLast hne, (List.dropLast_concat_getLast hne).symm⟩
  have hd : d ≠ 0 := by
    intro h0; subst h0
    exact h.2 (by simp)
  rw [valw_snoc]
  simp
  have : 1 * B ^ l'.length ≤ d * B ^ l'.length := Nat.mul_le_mul_right _ (by omega)
  omega

theorem canon_pos (l : List Nat) (h : canon l) (hne : l ≠ []) : 0 < valw l :=
  Nat.lt_of_lt_of_le (Nat.pow_pos (by decide)) (canon_le l h hne)

theorem canon_lt_of_length {a b : List Nat} (ha : digs a) (hb : canon b) (h : a.length < b.length) : valw a < valw b := by
  have h1 := valw_lt a ha
  have h2 := canon_le b hb (by intro h0; subst h0; simp at h)
  have h3 : B ^ a.length ≤ B ^ (b.length - 1) := Nat.pow_le_pow_right (by decide) (by omega)
  omega

theorem canon_inj (a b : List Nat) (ha : canon a) (hb : canon b) (h : valw a = valw b) : a = b := by
  apply valw_inj a b ha.1 hb.1 _ h
  rcases Nat.lt_trichotomy a.length b.length with h1 | h1 | h1
  · have := canon_lt_of_length ha.1 hb h1; omega
  · exact h1
  · have := canon_lt_of_length hb.1 ha h1; omega

/-- comparing digits from the most significant one on -/
def cmpTo (xs ys : List Nat) : Nat → Int
  | 0 => 0
  | k + 1 => if xs.getD k 0 < ys.getD k 0 then -1 else if xs.getD k 0 > ys.getD k 0 then 1 else cmpTo xs ys k

def cmpNat (a b : Nat) : Int := if a < b then -1 else if b < a then 1 else 0

theorem cmpTo_take (xs ys : List Nat) (hx : digs xs) (hy : digs ys) (k : Nat) (h1 : k ≤ xs.length) (h2 : k ≤ ys.length) :
    cmpTo xs ys k = cmpNat (valw (xs.take k)) (valw (ys.take k)) := by
  induction k with
  | zero => simp [cmpTo, cmpNat]
  | succ k ih =>
    rw [cmpTo, valw_take_succ xs k (by omega), valw_take_succ ys k (by omega), ih (by omega) (by omega)]
    have a1 := valw_lt _ (digs_take hx k)
    have a2 := valw_lt _ (digs_take hy k)
    simp only [List.length_take, Nat.min_eq_left (show k ≤ xs.length by omega), Nat.min_eq_left (show k ≤ ys.length by omega)] at a1 a2
    generalize xs.getD k 0 = x at *
    generalize ys.getD k 0 = y at *
    generalize valw (xs.take k) = u at *
    generalize valw (ys.take k) = v at *
    generalize hP : B ^ k = P at *
    unfold cmpNat
    rcases Nat.lt_trichotomy x y with h | h | h
    · rw [if_pos h]
      have : (x + 1) * P ≤ y * P := Nat.mul_le_mul_right P h
      rw [Nat.add_mul] at this
      rw [if_pos (by omega)]
    · subst h
      simp
    · rw [if_neg (by omega), if_pos h]
      have : (y + 1) * P ≤ x * P := Nat.mul_le_mul_right P h
      rw [Nat.add_mul] at this
      rw [if_neg (by omega), if_pos (by omega)]

theorem cmpTo_all (xs ys : List Nat) (hx : digs xs) (hy : digs ys) (h : xs.length = ys.length) : cmpTo xs ys xs.length = cmpNat (valw xs) (valw ys) := by
  rw [cmpTo_take xs ys hx hy xs.length (Nat.le_refl _) (by omega)]
  rw [List.take_length, h, List.take_length]

end BF

namespace BF

/-- without zeros at the end -/
def trimTo (xs : List Nat) : Nat → List Nat
  | 0 => []
  | k + 1 => if xs.getD k 0 = 0 then trimTo xs k else xs.take (k + 1)

def trimL (xs : List Nat) : List Nat := trimTo xs xs.length

theorem trimTo_canon (xs : List Nat) (h : digs xs) (k : Nat) (hk : k ≤ xs.length) : canon (trimTo xs k) := by
  induction k with
  | zero => exact ⟨fun d hd => by simp [trimTo] at hd, by simp [trimTo]⟩
  | succ k ih =>
    rw [trimTo]
    split
    · exact ih (by omega)
    · rename_i h0
      refine ⟨digs_take h _, ?_⟩
      have hk' : k < xs.length := by omega
      have h1 : xs.getD k 0 = xs[k] := by simp [hk']
      rw [List.take_succ_eq_append_getElem hk', List.getLast?_concat]
      rw [h1] at h0
      simpa using h0

theorem trimTo_val (xs : List Nat) (k : Nat) (hk : k ≤ xs.length) : valw (trimTo xs k) = valw (xs.take k) := by
  induction k with
  | zero => simp [trimTo]
  | succ k ih =>
    rw [trimTo]
    split
    · rename_i h0
      rw [ih (by omega), valw_take_succ xs k (by omega), h0]; simp
    · rfl

theorem trimTo_len (xs : List Nat) (k : Nat) : (trimTo xs k).length ≤ k := by
  induction k with
  | zero => simp [trimTo]
  | succ k ih =>
    rw [trimTo]
    split
    · omega
    · simp; omega

theorem trimTo_take (xs : List Nat) (k : Nat) : ∃ m, m ≤ k ∧ trimTo xs k = xs.take m := by
  induction k with
  | zero => exact ⟨0, by omega, by simp [trimTo]⟩
  | succ k ih =>
    rw [trimTo]
    split
    · obtain ⟨m, h1, h2⟩ := ih
      exact ⟨m, by omega, h2⟩
    · exact ⟨k + 1, by omega, rfl⟩

theorem trimL_canon {xs : List Nat} (h : digs xs) : canon (trimL xs) := trimTo_canon xs h _ (Nat.le_refl _)
theorem trimL_val (xs : List Nat) : valw (trimL xs) = valw xs := by
  rw [trimL, trimTo_val xs _ (Nat.le_refl _), List.take_length]
theorem trimL_of_canon {xs : List Nat} (h : canon xs) : trimL xs = xs := canon_inj _ _ (trimL_canon h.1) h (trimL_val xs)

end BF

namespace BF

/-- the bytes of a digit, appended to the bytes of what stands before it -/
theorem text_step (N d j : Nat) (hj : j < 4) : enc ((N * B + d) / 256 ^ j) =
    (let c := d / 256 ^ j % 256; if c ≠ 0 ∨ enc ((N * B + d) / 256 ^ (j + 1)) ≠ [] then enc ((N * B + d) / 256 ^ (j + 1)) ++ [UInt8.ofNat c] else enc ((N * B + d) / 256 ^ (j + 1))) := by
  simp only
  have e1 : (N * B + d) / 256 ^ j % 256 = d / 256 ^ j % 256 := by
    have hp : B = 256 ^ j * 256 ^ (4 - j) := by rw [← Nat.pow_add, show j + (4 - j) = 4 by omega]
    have h3 : (256 : Nat) ^ (4 - j) = 256 * 256 ^ (3 - j) := by rw [show 4 - j = (3 - j) + 1 by omega, Nat.pow_succ, Nat.mul_comm]
    rw [hp, ← Nat.mul_assoc, Nat.mul_comm N, Nat.mul_assoc, Nat.mul_add_div (Nat.pow_pos (by decide)), h3, ← Nat.mul_assoc, Nat.mul_comm N 256, Nat.mul_assoc, Nat.mul_add_mod]
  rw [← e1]
  generalize hM : (N * B + d) / 256 ^ j = M
  have e2 : (N * B + d) / 256 ^ (j + 1) = M / 256 := by rw [← hM, Nat.pow_succ, ← Nat.div_div_eq_div_mul]
  rw [e2]
  by_cases h0 : M = 0
  · subst h0; simp [enc_zero]
  · have e3 := enc_snoc (M / 256) (M % 256) (by omega) (by omega)
    rw [show 256 * (M / 256) + M % 256 = M by omega] at e3
    rw [if_pos]
    · exact e3
    · by_cases h1 : M % 256 = 0
      · right; rw [Ne, enc_eq_nil]; omega
      · left; exact h1

theorem valw_drop (xs : List Nat) (h : digs xs) (k : Nat) : valw xs / B ^ k = valw (xs.drop k) := by
  by_cases hk : k ≤ xs.length
  · have h1 := valw_append (xs.take k) (xs.drop k)
    have h2 := valw_lt _ (digs_take h k)
    rw [List.take_append_drop] at h1
    simp only [List.length_take, Nat.min_eq_left hk] at h1 h2
    rw [h1, Nat.add_comm, Nat.mul_add_div (Nat.pow_pos (by decide)), Nat.div_eq_of_lt h2, Nat.add_zero]
  · have h2 := valw_lt _ h
    have h3 : B ^ xs.length ≤ B ^ k := Nat.pow_le_pow_right (by decide) (by omega)
    rw [List.drop_eq_nil_of_le (by omega), Nat.div_eq_of_lt (by omega)]
    rfl

theorem valw_div_step (xs : List Nat) (h : digs xs) (k : Nat) : valw xs / B ^ k = valw xs / B ^ (k + 1) * B + xs.getD k 0 := by
  rw [valw_digit xs h, Nat.pow_succ, ← Nat.div_div_eq_div_mul]
  have := Nat.div_add_mod (valw xs / B ^ k) B
  rw [Nat.mul_comm] at this
  exact this.symm

end BF

namespace BF

theorem B_pow (k : Nat) : B ^ k = 256 ^ (4 * k) := by
  rw [Nat.pow_mul]

theorem enc_small {ys : List Nat} (h : digs ys) {q : Nat} (hq : q ≤ valw ys) : (enc q).length ≤ 4 * ys.length := by
  apply enc_length_lt
  rw [← B_pow]
  exact Nat.lt_of_le_of_lt hq (valw_lt ys h)

end BF

namespace BF

/-- how far a subtraction in place has come -/
def LessRel (xs ys zs : List Nat) (i bo : Nat) : Prop :=
  zs.length = xs.length ∧ zs.drop i = xs.drop i ∧ digs (zs.take i) ∧ bo ≤ 1 ∧ valw (zs.take i) + valw (ys.take i) = valw (xs.take i) + bo * B ^ i

theorem less_start (xs ys : List Nat) : LessRel xs ys xs 0 0 := ⟨rfl, rfl, fun d hd => by simp at hd, by omega, by simp [valw]⟩

theorem take_set_succ (l : List Nat) (k d : Nat) (h : k < l.length) : (l.set k d).take (k + 1) = l.take k ++ [d] := by
  rw [List.take_succ_eq_append_getElem (by simpa using h)]
  simp [List.take_set_of_le]

theorem valw_take_succ' (l : List Nat) (k : Nat) : valw (l.take (k + 1)) = valw (l.take k) + l.getD k 0 * B ^ k := by
  by_cases h : k < l.length
  · exact valw_take_succ l k h
  · rw [List.take_of_length_le (by omega), List.take_of_length_le (by omega)]
    simp [List.getD, List.getElem?_eq_none (Nat.le_of_not_lt h)]

theorem less_getD {xs ys zs : List Nat} {i bo : Nat} (h : LessRel xs ys zs i bo) : zs.getD i 0 = xs.getD i 0 := by
  have h2 := h.2.1
  have a : (zs.drop i).getD 0 0 = (xs.drop i).getD 0 0 := by rw [h2]
  simpa [List.getD, List.getElem?_drop] using a

theorem less_step {xs ys zs : List Nat} {i bo : Nat} (h : LessRel xs ys zs i bo) (hi : i < xs.length) (hx : digs xs) (hy : digs ys) (bo' : Nat) (hb : bo' ≤ 1) (z : Nat) (hz : z < B)
    (e : z + (bo + ys.getD i 0) = xs.getD i 0 + bo' * B) : LessRel xs ys (zs.set i z) (i + 1) bo' := by
  obtain ⟨h1, h2, h3, h4, h5⟩ := h
  refine ⟨by simpa using h1, ?_, ?_, hb, ?_⟩
  · rw [List.drop_set_of_lt (by omega)]
    have : (zs.drop i).drop 1 = (xs.drop i).drop 1 := by rw [h2]
    simpa [List.drop_drop] using this
  · rw [take_set_succ _ _ _ (by omega)]
    exact digs_snoc h3 hz
  · rw [take_set_succ _ _ _ (by omega), valw_snoc, valw_take_succ' ys, valw_take_succ' xs, Nat.pow_succ]
    simp only [List.length_take, Nat.min_eq_left (show i ≤ zs.length by omega)]
    generalize xs.getD i 0 = x at *
    generalize ys.getD i 0 = y at *
    generalize hP : B ^ i = P at *
    have e2 : (z + (bo + y)) * P = (x + bo' * B) * P := by rw [e]
    simp only [Nat.add_mul] at e2
    have e3 : bo' * B * P = bo' * (P * B) := by rw [Nat.mul_assoc, Nat.mul_comm B]
    rw [e3] at e2
    omega

theorem less_end {xs ys zs : List Nat} {bo : Nat} (h : LessRel xs ys zs xs.length bo) (hy : ys.length ≤ xs.length) (hle : valw ys ≤ valw xs) : digs zs ∧ valw zs = valw xs - valw ys := by
  obtain ⟨h1, _, h3, h4, h5⟩ := h
  rw [← h1, List.take_length] at h3 h5
  rw [h1, List.take_of_length_le hy, List.take_length] at h5
  refine ⟨h3, ?_⟩
  have := valw_lt zs h3
  rw [h1] at this
  rcases Nat.eq_zero_or_pos bo with h0 | h0
  · subst h0; omega
  · have : bo = 1 := by omega
    subst this
    omega

end BF

namespace BF

/-- how far doubling has come -/
def DoubleRel (xs zs : List Nat) (b0 i b : Nat) : Prop :=
  zs.length = xs.length ∧ zs.drop i = xs.drop i ∧ digs (zs.take i) ∧ b ≤ 1 ∧ valw (zs.take i) + b * B ^ i = 2 * valw (xs.take i) + b0

theorem double_start (xs : List Nat) (b0 : Nat) (h : b0 ≤ 1) : DoubleRel xs xs b0 0 b0 := ⟨rfl, rfl, fun d hd => by simp at hd, h, by simp [valw]⟩

theorem double_getD {xs zs : List Nat} {b0 i b : Nat} (h : DoubleRel xs zs b0 i b) : zs.getD i 0 = xs.getD i 0 := by
  have h2 := h.2.1
  have a : (zs.drop i).getD 0 0 = (xs.drop i).getD 0 0 := by rw [h2]
  simpa [List.getD, List.getElem?_drop] using a

theorem double_step {xs zs : List Nat} {b0 i b : Nat} (h : DoubleRel xs zs b0 i b) (hi : i < xs.length) (hx : digs xs) :
    DoubleRel xs (zs.set i ((2 * xs.getD i 0 + b) % B)) b0 (i + 1) ((2 * xs.getD i 0 + b) / B) := by
  obtain ⟨h1, h2, h3, h4, h5⟩ := h
  have hxb := digs_getD hx i
  refine ⟨by simpa using h1, ?_, ?_, ?_, ?_⟩
  · rw [List.drop_set_of_lt (by omega)]
    have : (zs.drop i).drop 1 = (xs.drop i).drop 1 := by rw [h2]
    simpa [List.drop_drop] using this
  · rw [take_set_succ _ _ _ (by omega)]
    exact digs_snoc h3 (Nat.mod_lt _ (by decide))
  · unfold B at *; omega
  · rw [take_set_succ _ _ _ (by omega), valw_snoc, valw_take_succ' xs, Nat.pow_succ]
    simp only [List.length_take, Nat.min_eq_left (show i ≤ zs.length by omega)]
    generalize xs.getD i 0 = x at *
    generalize hP : B ^ i = P at *
    have e := Nat.div_add_mod (2 * x + b) B
    generalize (2 * x + b) / B = q at *
    generalize (2 * x + b) % B = r at *
    have e2 : (B * q + r) * P = (2 * x + b) * P := by rw [e]
    simp only [Nat.add_mul, Nat.mul_add] at e2 ⊢
    have e3 : B * q * P = q * (P * B) := by rw [Nat.mul_comm B, Nat.mul_assoc, Nat.mul_comm B]
    rw [e3] at e2
    have e4 : 2 * (x * P) = 2 * x * P := by rw [Nat.mul_assoc]
    omega

theorem double_end {xs zs : List Nat} {b0 b : Nat} (h : DoubleRel xs zs b0 xs.length b) : digs zs ∧ valw zs + b * B ^ zs.length = 2 * valw xs + b0 := by
  obtain ⟨h1, _, h3, h4, h5⟩ := h
  rw [← h1, List.take_length] at h3 h5
  rw [h1, List.take_length] at h5
  rw [h1]
  exact ⟨h3, h5⟩

theorem double_canon0 {xs zs : List Nat} {b0 : Nat} (h : DoubleRel xs zs b0 xs.length 0) (hc : canon xs) (hb : b0 ≤ 1) (hne : xs ≠ []) : canon zs ∧ valw zs = 2 * valw xs + b0 := by
  have he := double_end h
  refine ⟨⟨he.1, ?_⟩, by omega⟩
  intro h0
  have hz : zs ≠ [] := by intro h1; subst h1; have := h.1; simp at this; exact hne (List.length_eq_zero_iff.1 this.symm)
  obtain ⟨z', d, rfl⟩ : ∃ z' d, zs = z' ++ [d] := ⟨zs.dropLast, zs.getLast hz, (List.dropLast_concat_getLast hz).symm⟩
  simp at h0
  subst h0
  have h2 := valw_lt z' (fun d hd => he.1 d (by simp [hd]))
  have h3 := canon_le xs hc hne
  have h4 := h.1
  simp at h4
  rw [show xs.length - 1 = z'.length by omega] at h3
  have := he.2
  rw [valw_snoc] at this
  omega

theorem double_canon1 {xs zs : List Nat} {b0 : Nat} (h : DoubleRel xs zs b0 xs.length 1) : canon (zs ++ [1]) ∧ valw (zs ++ [1]) = 2 * valw xs + b0 := by
  have he := double_end h
  refine ⟨⟨digs_snoc he.1 (by decide), by simp⟩, by rw [valw_snoc]; exact he.2⟩

/-- the bitwise or of a doubled number and a bit -/
theorem shl_or_bit (x b : Nat) (h : b ≤ 1) : (2 * x) ||| b = 2 * x + b := by
  have := Nat.two_pow_add_eq_or_of_lt (b := b) (i := 1) (by omega) x
  simpa using this.symm

end BF

namespace BF

/-- a byte is put into its place -/
theorem or_byte (d b s : Nat) (hd : d % 2 ^ (s + 8) = 0) (hb : b < 256) : d ||| (b * 2 ^ s) = d + b * 2 ^ s := by
  have h1 : b * 2 ^ s < 2 ^ (s + 8) := by
    rw [Nat.pow_add, Nat.mul_comm]
    exact Nat.mul_lt_mul_of_pos_left hb (Nat.pow_pos (by decide))
  have h2 := Nat.two_pow_add_eq_or_of_lt h1 (d / 2 ^ (s + 8))
  have h3 := Nat.div_add_mod d (2 ^ (s + 8))
  rw [hd, Nat.add_zero] at h3
  rw [h3] at h2
  exact h2.symm

/-- how far the bytes of a number have been put into digits -/
def WordsRel (s : List UInt8) (zs : List Nat) (i : Nat) : Prop :=
  zs.length = (s.length + 3) / 4 ∧ digs zs ∧ valw zs = dec (s.take i) * 256 ^ (s.length - i)

theorem words_start (s : List UInt8) : WordsRel s (List.replicate ((s.length + 3) / 4) 0) 0 := by
  refine ⟨by simp, fun d hd => ?_, ?_⟩
  · have := (List.mem_replicate.1 hd).2
    subst this; decide
  · rw [valw_replicate_zero]; simp [dec]

theorem pow_split (at' : Nat) : (256 : Nat) ^ at' = B ^ (at' / 4) * 2 ^ (8 * (at' % 4)) := by
  have h1 : (256 : Nat) ^ at' = 2 ^ (8 * at') := by rw [Nat.pow_mul]
  have h2 : B ^ (at' / 4) = 2 ^ (32 * (at' / 4)) := by rw [Nat.pow_mul]
  rw [h1, h2, ← Nat.pow_add]
  congr 1
  omega

theorem words_low {s : List UInt8} {zs : List Nat} {i : Nat} (h : WordsRel s zs i) (hi : i < s.length) :
    zs.getD ((s.length - 1 - i) / 4) 0 % 2 ^ (8 * ((s.length - 1 - i) % 4) + 8) = 0 := by
  obtain ⟨h1, h2, h3⟩ := h
  rw [valw_digit zs h2, h3]
  generalize hat : s.length - 1 - i = at'
  rw [show s.length - i = at' + 1 by omega, Nat.pow_succ, pow_split]
  generalize dec (s.take i) = m
  generalize hk : at' / 4 = k
  have hm : at' % 4 < 4 := Nat.mod_lt _ (by decide)
  generalize at' % 4 = j at *
  have e1 : m * (B ^ k * 2 ^ (8 * j) * 256) / B ^ k = m * 2 ^ (8 * j + 8) := by
    rw [show m * (B ^ k * 2 ^ (8 * j) * 256) = B ^ k * (m * (2 ^ (8 * j) * 256)) by
      simp only [Nat.mul_assoc, Nat.mul_left_comm, Nat.mul_comm]]
    rw [Nat.mul_div_cancel_left _ (Nat.pow_pos (by decide)), Nat.pow_add]
  rw [e1]
  have e2 : B = 2 ^ (8 * j + 8) * 2 ^ (24 - 8 * j) := by
    rw [← Nat.pow_add, show 8 * j + 8 + (24 - 8 * j) = 32 by omega]
  rw [e2, Nat.mod_mul_right_mod]
  exact Nat.mul_mod_left _ _

theorem words_step {s : List UInt8} {zs : List Nat} {i : Nat} (h : WordsRel s zs i) (hi : i < s.length) (b : UInt8) (hb : s[i]? = some b) :
    WordsRel s (zs.set ((s.length - 1 - i) / 4) (zs.getD ((s.length - 1 - i) / 4) 0 + b.toNat * 2 ^ (8 * ((s.length - 1 - i) % 4)))) (i + 1) := by
  have hlow := words_low h hi
  obtain ⟨h1, h2, h3⟩ := h
  have hbt : b.toNat < 256 := b.toNat_lt
  have hdb := digs_getD h2 ((s.length - 1 - i) / 4)
  have hset := valw_set zs ((s.length - 1 - i) / 4)
  have htake : s.take (i + 1) = s.take i ++ [b] := by
    rw [List.take_succ_eq_append_getElem hi]
    rw [List.getElem?_eq_getElem hi] at hb
    simp at hb
    rw [hb]
  generalize hat : s.length - 1 - i = at' at *
  have hp := pow_split at'
  have hm : at' % 4 < 4 := Nat.mod_lt _ (by decide)
  generalize hk : at' / 4 = k at *
  generalize at' % 4 = j at *
  generalize hd : zs.getD k 0 = d at *
  have hz : d + b.toNat * 2 ^ (8 * j) < B := by
    have h4 : b.toNat * 2 ^ (8 * j) < 2 ^ (8 * j + 8) := by
      rw [Nat.pow_add, Nat.mul_comm]
      exact Nat.mul_lt_mul_of_pos_left hbt (Nat.pow_pos (by decide))
    have e2 : B = 2 ^ (8 * j + 8) * 2 ^ (24 - 8 * j) := by
      rw [← Nat.pow_add, show 8 * j + 8 + (24 - 8 * j) = 32 by omega]
    have h5 := Nat.div_add_mod d (2 ^ (8 * j + 8))
    rw [hlow, Nat.add_zero] at h5
    have h6 : d / 2 ^ (8 * j + 8) < 2 ^ (24 - 8 * j) := by
      rw [Nat.div_lt_iff_lt_mul (Nat.pow_pos (by decide)), Nat.mul_comm, ← e2]; exact hdb
    have h7 : 2 ^ (8 * j + 8) * (d / 2 ^ (8 * j + 8) + 1) ≤ 2 ^ (8 * j + 8) * 2 ^ (24 - 8 * j) := Nat.mul_le_mul_left _ h6
    rw [← e2, Nat.mul_add] at h7
    omega
  refine ⟨by simpa using h1, digs_set h2 _ _ hz, ?_⟩
  have hs := hset (d + b.toNat * 2 ^ (8 * j)) (by rw [h1]; omega)
  rw [h3, show s.length - i = at' + 1 by omega, Nat.pow_succ] at hs
  rw [htake, dec_snoc, show s.length - (i + 1) = at' by omega]
  generalize dec (s.take i) = m at *
  rw [hp] at hs ⊢
  have e3 : (256 * m + b.toNat) * (B ^ k * 2 ^ (8 * j)) = m * (B ^ k * 2 ^ (8 * j) * 256) + b.toNat * 2 ^ (8 * j) * B ^ k := by
    rw [Nat.add_mul]
    simp only [Nat.mul_assoc, Nat.mul_left_comm, Nat.mul_comm]
  rw [e3]
  rw [Nat.add_mul] at hs
  omega

theorem words_end {s : List UInt8} {zs : List Nat} (h : WordsRel s zs s.length) (hn : natural s = true) : canon zs ∧ valw zs = dec s := by
  obtain ⟨h1, h2, h3⟩ := h
  rw [List.take_length, Nat.sub_self, Nat.pow_zero, Nat.mul_one] at h3
  refine ⟨⟨h2, ?_⟩, h3⟩
  intro h0
  have hz : zs ≠ [] := by intro h; subst h; simp at h0
  obtain ⟨z', d, rfl⟩ : ∃ z' d, zs = z' ++ [d] := ⟨zs.dropLast, zs.getLast hz, (List.dropLast_concat_getLast hz).symm⟩
  simp at h0
  subst h0
  have h4 := valw_lt z' (fun d hd => h2 d (by simp [hd]))
  rw [valw_snoc] at h3
  simp at h3 h1
  have h5 : (enc (dec s)).length ≤ 4 * z'.length := enc_length_lt _ _ (by rw [← B_pow]; omega)
  rw [enc_dec s hn] at h5
  omega

end BF

namespace BF

/-- how far a division has come: the bits from 'at' on are done -/
def DivRel (A D n : Nat) (qs : List Nat) (p : Nat) : Prop :=
  qs.length = n ∧ digs qs ∧ valw qs = A / 2 ^ p / D * 2 ^ p

theorem B_pow2 (k : Nat) : B ^ k = 2 ^ (32 * k) := by rw [Nat.pow_mul]

theorem div_start (A D n : Nat) (h : A < B ^ n) : DivRel A D n (List.replicate n 0) (32 * n) := by
  refine ⟨by simp, fun d hd => ?_, ?_⟩
  · have := (List.mem_replicate.1 hd).2
    subst this; decide
  · rw [valw_replicate_zero, ← B_pow2, Nat.div_eq_of_lt h]; simp

/-- the bit of a number at a place, as its digits say it -/
theorem bit_of_digit (l : List Nat) (h : digs l) (p : Nat) : l.getD (p / 32) 0 / 2 ^ (p % 32) % 2 = valw l / 2 ^ p % 2 := by
  rw [valw_digit l h, B_pow2]
  have h32 : p % 32 < 32 := Nat.mod_lt _ (by decide)
  have e : B = 2 ^ (p % 32) * (2 * 2 ^ (31 - p % 32)) := by
    rw [← Nat.mul_assoc, ← Nat.pow_succ, ← Nat.pow_add, show (p % 32).succ + (31 - p % 32) = 32 by omega]
  rw [e, Nat.mod_mul_right_div_self, Nat.mod_mul_right_mod, Nat.div_div_eq_div_mul, ← Nat.pow_add, Nat.div_add_mod]

theorem div_pow_succ (A p : Nat) : A / 2 ^ p = 2 * (A / 2 ^ (p + 1)) + A / 2 ^ p % 2 := by
  rw [Nat.pow_succ, ← Nat.div_div_eq_div_mul]
  omega

/-- the remainder goes on -/
theorem div_rem_step (A D p : Nat) (hD : 0 < D) :
    2 * (A / 2 ^ (p + 1) % D) + A / 2 ^ p % 2 = A / 2 ^ p % D + (if D ≤ 2 * (A / 2 ^ (p + 1) % D) + A / 2 ^ p % 2 then D else 0) ∧
    A / 2 ^ p / D = 2 * (A / 2 ^ (p + 1) / D) + (if D ≤ 2 * (A / 2 ^ (p + 1) % D) + A / 2 ^ p % 2 then 1 else 0) := by
  have e := div_pow_succ A p
  have hb : A / 2 ^ p % 2 < 2 := Nat.mod_lt _ (by decide)
  generalize A / 2 ^ p % 2 = b at *
  generalize A / 2 ^ (p + 1) = N at *
  generalize A / 2 ^ p = M at *
  have h1 := Nat.div_add_mod N D
  have h2 := Nat.mod_lt N hD
  generalize N / D = Q at *
  generalize N % D = r at *
  subst e
  subst h1
  have e1 : 2 * (D * Q + r) + b = D * (2 * Q) + (2 * r + b) := by
    rw [Nat.mul_add, Nat.mul_left_comm]; omega
  rw [e1]
  split
  · rename_i h
    have e2 : D * (2 * Q) + (2 * r + b) = (2 * r + b - D) + D * (2 * Q + 1) := by rw [Nat.mul_add]; omega
    rw [e2, Nat.add_mul_mod_self_left, Nat.add_mul_div_left _ _ hD, Nat.mod_eq_of_lt (by omega), Nat.div_eq_of_lt (by omega)]
    omega
  · rename_i h
    have e2 : D * (2 * Q) + (2 * r + b) = (2 * r + b) + D * (2 * Q) := by omega
    rw [e2, Nat.add_mul_mod_self_left, Nat.add_mul_div_left _ _ hD, Nat.mod_eq_of_lt (by omega), Nat.div_eq_of_lt (by omega)]
    omega

theorem div_low {A D n : Nat} {qs : List Nat} {p : Nat} (h : DivRel A D n qs (p + 1)) : qs.getD (p / 32) 0 % 2 ^ (p % 32 + 1) = 0 := by
  obtain ⟨h1, h2, h3⟩ := h
  rw [valw_digit qs h2, h3, B_pow2]
  generalize A / 2 ^ (p + 1) / D = Q
  have h32 : p % 32 < 32 := Nat.mod_lt _ (by decide)
  have e1 : 2 ^ (p + 1) = 2 ^ (32 * (p / 32)) * 2 ^ (p % 32 + 1) := by
    rw [← Nat.pow_add]; congr 1; omega
  rw [e1, Nat.mul_left_comm, Nat.mul_div_cancel_left _ (Nat.pow_pos (by decide))]
  have e2 : B = 2 ^ (p % 32 + 1) * 2 ^ (31 - p % 32) := by
    rw [← Nat.pow_add, show p % 32 + 1 + (31 - p % 32) = 32 by omega]
  rw [e2, Nat.mod_mul_right_mod]
  exact Nat.mul_mod_left _ _

theorem or_pow (d s : Nat) (hd : d % 2 ^ (s + 1) = 0) : d ||| 2 ^ s = d + 2 ^ s := by
  have h1 : 2 ^ s < 2 ^ (s + 1) := Nat.pow_lt_pow_right (by decide) (by omega)
  have h2 := Nat.two_pow_add_eq_or_of_lt h1 (d / 2 ^ (s + 1))
  have h3 := Nat.div_add_mod d (2 ^ (s + 1))
  rw [hd, Nat.add_zero] at h3
  rw [h3] at h2
  exact h2.symm

theorem div_step0 {A D n : Nat} {qs : List Nat} {p : Nat} (h : DivRel A D n qs (p + 1)) (hD : 0 < D) (hlt : ¬ D ≤ 2 * (A / 2 ^ (p + 1) % D) + A / 2 ^ p % 2) : DivRel A D n qs p := by
  have e := (div_rem_step A D p hD).2
  rw [if_neg hlt] at e
  refine ⟨h.1, h.2.1, ?_⟩
  rw [h.2.2, e, Nat.pow_succ, Nat.add_zero, Nat.mul_comm (2 ^ p) 2, ← Nat.mul_assoc, Nat.mul_comm _ 2]

theorem div_step1 {A D n : Nat} {qs : List Nat} {p : Nat} (h : DivRel A D n qs (p + 1)) (hD : 0 < D) (hp : p < 32 * n) (hlt : D ≤ 2 * (A / 2 ^ (p + 1) % D) + A / 2 ^ p % 2) :
    DivRel A D n (qs.set (p / 32) (qs.getD (p / 32) 0 + 2 ^ (p % 32))) p := by
  have e := (div_rem_step A D p hD).2
  rw [if_pos hlt] at e
  have hl := div_low h
  obtain ⟨h1, h2, h3⟩ := h
  have hdb := digs_getD h2 (p / 32)
  have hs := valw_set qs (p / 32) (qs.getD (p / 32) 0 + 2 ^ (p % 32)) (by omega)
  have h32 : p % 32 < 32 := Nat.mod_lt _ (by decide)
  have hz : qs.getD (p / 32) 0 + 2 ^ (p % 32) < B := by
    have e2 : B = 2 ^ (p % 32 + 1) * 2 ^ (31 - p % 32) := by
      rw [← Nat.pow_add, show p % 32 + 1 + (31 - p % 32) = 32 by omega]
    generalize qs.getD (p / 32) 0 = d at *
    have h5 := Nat.div_add_mod d (2 ^ (p % 32 + 1))
    rw [hl, Nat.add_zero] at h5
    have h6 : d / 2 ^ (p % 32 + 1) < 2 ^ (31 - p % 32) := by
      rw [Nat.div_lt_iff_lt_mul (Nat.pow_pos (by decide)), Nat.mul_comm, ← e2]; exact hdb
    have h7 : 2 ^ (p % 32 + 1) * (d / 2 ^ (p % 32 + 1) + 1) ≤ 2 ^ (p % 32 + 1) * 2 ^ (31 - p % 32) := Nat.mul_le_mul_left _ h6
    rw [← e2, Nat.mul_add] at h7
    have h8 : 2 ^ (p % 32) < 2 ^ (p % 32 + 1) := Nat.pow_lt_pow_right (by decide) (by omega)
    omega
  refine ⟨by simpa using h1, digs_set h2 _ _ hz, ?_⟩
  rw [Nat.add_mul, h3, ← Nat.add_assoc, Nat.add_right_comm] at hs
  have hs2 := Nat.add_right_cancel hs
  rw [hs2, e, B_pow2, ← Nat.pow_add]
  rw [show p % 32 + 32 * (p / 32) = p by omega, Nat.add_mul, Nat.pow_succ, Nat.one_mul]
  congr 1
  rw [Nat.mul_comm (2 ^ p) 2, ← Nat.mul_assoc, Nat.mul_comm _ 2]

theorem div_end {A D n : Nat} {qs : List Nat} (h : DivRel A D n qs 0) : digs qs ∧ valw qs = A / D := by
  refine ⟨h.2.1, ?_⟩
  rw [h.2.2]; simp

end BF

namespace BF

/-- a bit of the dividend comes: the remainder and the digits of the quotient -/
def divStep (D : Nat) (s : Nat × List Nat) (x : Nat × Nat) : Nat × List Nat :=
  if D ≤ 2 * s.1 + x.2 then (2 * s.1 + x.2 - D, s.2.set (x.1 / 32) (s.2.getD (x.1 / 32) 0 ||| 2 ^ (x.1 % 32))) else (2 * s.1 + x.2, s.2)

def divTo (D m : Nat) (pre : List (Nat × Nat)) : Nat × List Nat := pre.foldl (divStep D) (0, List.replicate m 0)

theorem divTo_snoc (D m : Nat) (pre : List (Nat × Nat)) (x : Nat × Nat) : divTo D m (pre ++ [x]) = divStep D (divTo D m pre) x := by simp [divTo]

theorem or_lt_B {d j : Nat} (hd : d < B) (hj : j < 32) : d ||| 2 ^ j < B :=
  Nat.or_lt_two_pow (n := 32) hd (Nat.pow_lt_pow_right (by decide) hj)

theorem divTo_fits (D m : Nat) (hD : 0 < D) (pre : List (Nat × Nat)) (h : ∀ x ∈ pre, x.2 ≤ 1) : (divTo D m pre).1 < D ∧ (divTo D m pre).2.length = m ∧ digs (divTo D m pre).2 := by
  obtain ⟨n, hn⟩ : ∃ n, n = pre.length := ⟨_, rfl⟩
  induction n generalizing pre with
  | zero =>
    have : pre = [] := List.length_eq_zero_iff.1 hn.symm
    subst this
    refine ⟨hD, by simp [divTo], fun d hd => ?_⟩
    have := (List.mem_replicate.1 hd).2
    subst this; decide
  | succ n ih =>
    obtain ⟨l, b, rfl⟩ : ∃ l' b, pre = l' ++ [b] := by
      have hne : pre ≠ [] := by intro h; subst h; simp at hn
      exact ⟨pre.dropLast, pre.getLast hne, (List.dropLast_concat_getLast hne).symm⟩
    have h1 := ih l (fun x hx => h x (by simp [hx])) (by simpa using hn)
    have h2 := h b (by simp)
    rw [divTo_snoc]
    unfold divStep
    split
    · exact ⟨by simp only; omega, by simpa using h1.2.1, digs_set h1.2.2 _ _ (or_lt_B (digs_getD h1.2.2 _) (Nat.mod_lt _ (by decide)))⟩
    · exact ⟨by simp only; omega, h1.2⟩

/-- the pairs of places and bits that have come after k rounds -/
def pairsTo (A N : Nat) : Nat → List (Nat × Nat)
  | 0 => []
  | k + 1 => pairsTo A N k ++ [(N - 1 - k, A / 2 ^ (N - 1 - k) % 2)]

theorem divTo_pairs (A D m : Nat) (hD : 0 < D) (hA : A < B ^ m) (k : Nat) (hk : k ≤ 32 * m) :
    (divTo D m (pairsTo A (32 * m) k)).1 = A / 2 ^ (32 * m - k) % D ∧ DivRel A D m (divTo D m (pairsTo A (32 * m) k)).2 (32 * m - k) := by
  induction k with
  | zero =>
    refine ⟨?_, div_start A D m hA⟩
    rw [B_pow2] at hA
    rw [Nat.sub_zero, Nat.div_eq_of_lt hA, Nat.zero_mod]; rfl
  | succ k ih =>
    obtain ⟨h1, h2⟩ := ih (by omega)
    obtain ⟨p, hp⟩ : ∃ p, p = 32 * m - 1 - k := ⟨_, rfl⟩
    rw [show 32 * m - k = p + 1 by omega] at h1 h2
    rw [show 32 * m - (k + 1) = p by omega, pairsTo, ← hp, divTo_snoc]
    have e := (div_rem_step A D p hD).1
    unfold divStep
    simp only [h1]
    by_cases hc : D ≤ 2 * (A / 2 ^ (p + 1) % D) + A / 2 ^ p % 2
    · rw [if_pos hc] at e ⊢
      refine ⟨by simp only; omega, ?_⟩
      have h3 := div_step1 h2 hD (by omega) hc
      rw [or_pow _ _ (div_low h2)]
      exact h3
    · rw [if_neg hc] at e ⊢
      exact ⟨by simp only; omega, div_step0 h2 hD hc⟩

theorem canon_len_le {a b : List Nat} (ha : canon a) (hb : digs b) (h : valw a ≤ valw b) : a.length ≤ b.length := by
  rcases Nat.lt_or_ge b.length a.length with h1 | h1
  · have := canon_lt_of_length hb ha h1; omega
  · exact h1

end BF

namespace BF
theorem cmp_len {a b : List Nat} (ha : canon a) (hb : canon b) (h : a.length ≠ b.length) : cmpNat (valw a) (valw b) = if a.length < b.length then -1 else 1 := by
  unfold cmpNat
  rcases Nat.lt_or_gt_of_ne h with h1 | h1
  · have := canon_lt_of_length ha.1 hb h1
    rw [if_pos this, if_pos h1]
  · have := canon_lt_of_length hb.1 ha h1
    rw [if_neg (by omega), if_pos this, if_neg (by omega)]
end BF

namespace BF
/-- a string is a natural number -/
def natB (s : ByteArray) : Bool := natural s.data.toList
/-- what is the matter with strings: 0 nothing, 60 not natural, 2 too long -/
def chk (ss : List ByteArray) : Int := if ss.all natB then (if ss.all fun s => decide (s.size ≤ 256) then 0 else 2) else 60
def str (l : List UInt8) : ByteArray := ⟨l.toArray⟩
theorem str_toList (s : ByteArray) : str s.data.toList = s := rfl
theorem str_data (l : List UInt8) : (str l).data.toList = l := rfl
theorem str_size (l : List UInt8) : (str l).size = l.length := rfl
theorem natB_enc (n : Nat) : natB (str (enc n)) = true := enc_natural n
/-- the value of a string -/
def val (s : ByteArray) : Nat := dec s.data.toList
theorem val_enc (n : Nat) : val (str (enc n)) = n := dec_enc n
theorem enc_val {s : ByteArray} (h : natB s = true) : str (enc (val s)) = s := by
  unfold val; rw [enc_dec _ h]; rfl
theorem chk_fail (ss : List ByteArray) (k : Nat) (hk : k < ss.length) (h : natB ss[k] = false) : chk ss = 60 := by
  unfold chk
  rw [if_neg]
  intro h1
  have := List.all_eq_true.1 h1 ss[k] (List.getElem_mem hk)
  rw [h] at this; cases this
theorem chk_long (ss : List ByteArray) (h1 : ss.all natB = true) (k : Nat) (hk : k < ss.length) (h : 256 < ss[k].size) : chk ss = 2 := by
  unfold chk
  rw [if_pos h1, if_neg]
  intro h2
  have := List.all_eq_true.1 h2 ss[k] (List.getElem_mem hk)
  have := of_decide_eq_true this
  omega
theorem chk_ok (ss : List ByteArray) (h1 : ss.all natB = true) (h2 : (ss.all fun s => decide (s.size ≤ 256)) = true) : chk ss = 0 := by
  unfold chk
  rw [if_pos h1, if_pos h2]
theorem all_take_succ {α : Type} (p : α → Bool) (l : List α) (k : Nat) (hk : k < l.length) (h : (l.take k).all p = true) (h2 : p l[k] = true) : (l.take (k + 1)).all p = true := by
  rw [List.take_succ_eq_append_getElem hk, List.all_append, h]
  simp [h2]
end BF

namespace BF
/-- how far an addition has come -/
def AddRel (xs ys zs : List Nat) (i bo : Nat) : Prop :=
  zs.length = i ∧ digs zs ∧ bo ≤ 1 ∧ valw zs + bo * B ^ i = valw (xs.take i) + valw (ys.take i)

theorem add_start (xs ys : List Nat) : AddRel xs ys [] 0 0 := ⟨rfl, fun d hd => by simp at hd, by omega, by simp [valw]⟩

theorem add_step {xs ys zs : List Nat} {i bo : Nat} (h : AddRel xs ys zs i bo) (hx : digs xs) (hy : digs ys) :
    AddRel xs ys (zs ++ [(bo + xs.getD i 0 + ys.getD i 0) % B]) (i + 1) ((bo + xs.getD i 0 + ys.getD i 0) / B) := by
  obtain ⟨h1, h2, h3, h4⟩ := h
  have hxb := digs_getD hx i
  have hyb := digs_getD hy i
  refine ⟨by simp [h1], digs_snoc h2 (Nat.mod_lt _ (by decide)), by unfold B at *; omega, ?_⟩
  rw [valw_snoc, valw_take_succ' xs, valw_take_succ' ys, Nat.pow_succ, h1]
  generalize xs.getD i 0 = x at *
  generalize ys.getD i 0 = y at *
  generalize hP : B ^ i = P at *
  have e := Nat.div_add_mod (bo + x + y) B
  generalize (bo + x + y) / B = q at *
  generalize (bo + x + y) % B = r at *
  have e2 : (B * q + r) * P = (bo + x + y) * P := by rw [e]
  simp only [Nat.add_mul] at e2
  have e3 : B * q * P = q * (P * B) := by rw [Nat.mul_comm B, Nat.mul_assoc, Nat.mul_comm B]
  rw [e3] at e2
  omega

theorem add_end {xs ys zs : List Nat} {i : Nat} (h : AddRel xs ys zs i 0) (h1 : xs.length ≤ i) (h2 : ys.length ≤ i) : digs zs ∧ valw zs = valw xs + valw ys := by
  refine ⟨h.2.1, ?_⟩
  have := h.2.2.2
  rw [List.take_of_length_le h1, List.take_of_length_le h2] at this
  omega

theorem getD_none (xs : List Nat) (k : Nat) (h : xs.length ≤ k) : xs.getD k 0 = 0 := by simp [List.getD, List.getElem?_eq_none h]

/-- a number as a string with an error, if it is short -/
def shortS (n : Nat) : ByteArray := if (enc n).length ≤ 256 then str (enc n) else str []
def shortE (n : Nat) : Int := if (enc n).length ≤ 256 then 0 else 2

theorem words_len {s : ByteArray} {zs : List Nat} {i : Nat} (h : WordsRel s.data.toList zs i) : zs.length = (s.size + 3) / 4 := h.1
end BF

namespace BF
theorem chk2_ok {a b : ByteArray} (h : chk [a, b] = 0) : natB a = true ∧ natB b = true ∧ a.size ≤ 256 ∧ b.size ≤ 256 := by
  unfold chk at h
  split at h
  · rename_i h1
    split at h
    · rename_i h2
      simp at h1 h2
      exact ⟨h1.1, h1.2, h2.1, h2.2⟩
    · cases h
  · cases h
def addS (a b : ByteArray) : ByteArray := if chk [a, b] = 0 then shortS (val a + val b) else str []
def addE (a b : ByteArray) : Int := if chk [a, b] = 0 then shortE (val a + val b) else chk [a, b]
end BF

namespace BF
def subS (a b : ByteArray) : ByteArray := if chk [a, b] = 0 ∧ val b ≤ val a then str (enc (val a - val b)) else str []
def subE (a b : ByteArray) : Int := if chk [a, b] = 0 then (if val b ≤ val a then 0 else 1) else chk [a, b]
def cmpN (a b : ByteArray) : Int := if chk [a, b] = 0 then cmpNat (val a) (val b) else 0
def divOk (a b : ByteArray) : Bool := decide (chk [a, b] = 0) && decide (b.size ≠ 0)
def divQ (a b : ByteArray) : ByteArray := if divOk a b then str (enc (val a / val b)) else str []
def divR (a b : ByteArray) : ByteArray := if divOk a b then str (enc (val a % val b)) else str []
def divE (a b : ByteArray) : Int := if chk [a, b] = 0 then (if b.size ≠ 0 then 0 else 71) else chk [a, b]
def gcdS (a b : ByteArray) : ByteArray := if chk [a, b] = 0 then str (enc (Nat.gcd (val a) (val b))) else str []

theorem val_pos {s : ByteArray} (h : natB s = true) (hs : s.size ≠ 0) : 0 < val s := by
  rcases Nat.eq_zero_or_pos (val s) with h0 | h0
  · exfalso
    have := enc_val h
    rw [h0] at this
    rw [← this] at hs
    exact hs rfl
  · exact h0
theorem cmpNat_lt {a b : Nat} : cmpNat a b < 0 ↔ a < b := by
  unfold cmpNat; split
  · simp [*]
  · split <;> simp [*]
end BF

namespace BF
/-- how far an integer has been read -/
theorem int_step (s : List UInt8) (k : Nat) (hk : k < s.length) : dec (s.take (k + 1)) = 256 * dec (s.take k) + s[k].toNat := by
  rw [List.take_succ_eq_append_getElem hk, dec_snoc]
theorem dec_take_lt (s : List UInt8) (k : Nat) (hk : k ≤ s.length) : dec (s.take k) < 256 ^ k := by
  have := dec_lt (s.take k)
  rwa [List.length_take, Nat.min_eq_left hk] at this
def intOk (s : ByteArray) : Bool := natB s && decide (s.size ≤ 8) && decide (val s ≤ 9223372036854775807)
def intV (s : ByteArray) : Int := if intOk s then val s else 0
theorem or_byte_low (m b : Nat) (hb : b < 256) : (m * 256) ||| b = m * 256 + b := by
  have := Nat.two_pow_add_eq_or_of_lt (i := 8) hb m
  rw [Nat.mul_comm m 256]
  exact this.symm
end BF

namespace BF
/-- how far a multiplication has come: a row -/
def MulRow (xs ys ls : List Nat) (i : Nat) : Prop :=
  ls.length = xs.length + ys.length + 1 ∧ digs ls ∧ valw ls = valw (xs.take i) * valw ys
/-- within a row -/
def MulIn (xs ys ls : List Nat) (i k ov : Nat) : Prop :=
  ls.length = xs.length + ys.length + 1 ∧ digs ls ∧ ov < B ∧ valw ls + ov * B ^ (i + k) = valw (xs.take i) * valw ys + xs.getD i 0 * valw (ys.take k) * B ^ i

theorem mul_start (xs ys : List Nat) : MulRow xs ys (List.replicate (xs.length + ys.length + 1) 0) 0 := by
  refine ⟨by simp, fun d hd => ?_, by rw [valw_replicate_zero]; simp [valw]⟩
  have := (List.mem_replicate.1 hd).2
  subst this; decide

theorem mul_in_start {xs ys ls : List Nat} {i : Nat} (h : MulRow xs ys ls i) : MulIn xs ys ls i 0 0 :=
  ⟨h.1, h.2.1, by decide, by simp [valw, h.2.2]⟩

theorem mul_bound {d f : Nat} (hd : d < B) (hf : f < B) : d * f ≤ 18446744065119617025 := by
  unfold B at *
  exact Nat.mul_le_mul (show d ≤ 4294967295 by omega) (show f ≤ 4294967295 by omega)

theorem mul_in_step {xs ys ls : List Nat} {i k ov : Nat} (h : MulIn xs ys ls i k ov) (hi : i < xs.length) (hk : k < ys.length) (hx : digs xs) (hy : digs ys) :
    MulIn xs ys (ls.set (i + k) ((ov + (ls.getD (i + k) 0 + xs.getD i 0 * ys.getD k 0)) % B)) i (k + 1) ((ov + (ls.getD (i + k) 0 + xs.getD i 0 * ys.getD k 0)) / B) := by
  obtain ⟨h1, h2, h3, h4⟩ := h
  have hb := mul_bound (digs_getD hx i) (digs_getD hy k)
  have hl := digs_getD h2 (i + k)
  have hs := valw_set ls (i + k) ((ov + (ls.getD (i + k) 0 + xs.getD i 0 * ys.getD k 0)) % B) (by omega)
  refine ⟨by simpa using h1, digs_set h2 _ _ (Nat.mod_lt _ (by decide)), by unfold B at *; omega, ?_⟩
  rw [valw_take_succ ys k hk, Nat.mul_add, Nat.add_mul, show i + (k + 1) = (i + k) + 1 by omega, Nat.pow_succ]
  have e3 : xs.getD i 0 * (ys.getD k 0 * B ^ k) * B ^ i = xs.getD i 0 * ys.getD k 0 * B ^ (i + k) := by
    rw [Nat.pow_add]
    simp only [Nat.mul_assoc, Nat.mul_left_comm, Nat.mul_comm]
  rw [e3]
  generalize hP : B ^ (i + k) = P at *
  generalize xs.getD i 0 * ys.getD k 0 = p at *
  generalize ls.getD (i + k) 0 = l at *
  have e := Nat.div_add_mod (ov + (l + p)) B
  generalize (ov + (l + p)) / B = q at *
  generalize (ov + (l + p)) % B = r at *
  have e2 : (B * q + r) * P = (ov + (l + p)) * P := by rw [e]
  simp only [Nat.add_mul] at e2
  have e4 : B * q * P = q * (P * B) := by rw [Nat.mul_comm B, Nat.mul_assoc, Nat.mul_comm B]
  rw [e4] at e2
  omega

theorem mul_row_end {xs ys ls : List Nat} {i ov : Nat} (h : MulIn xs ys ls i ys.length ov) (hi : i < xs.length) (hx : digs xs) (hy : digs ys) :
    ls.getD (i + ys.length) 0 + ov < B ∧ MulRow xs ys (ls.set (i + ys.length) (ls.getD (i + ys.length) 0 + ov)) (i + 1) := by
  obtain ⟨h1, h2, h3, h4⟩ := h
  rw [List.take_length] at h4
  have e0 : valw (xs.take (i + 1)) * valw ys = valw (xs.take i) * valw ys + xs.getD i 0 * valw ys * B ^ i := by
    rw [valw_take_succ xs i hi, Nat.add_mul]
    simp only [Nat.mul_assoc, Nat.mul_left_comm, Nat.mul_comm]
  rw [← e0] at h4
  have hA := valw_lt _ (digs_take hx (i + 1))
  rw [List.length_take, Nat.min_eq_left (show i + 1 ≤ xs.length by omega)] at hA
  have hY := valw_lt ys hy
  have hV : valw (xs.take (i + 1)) * valw ys < B ^ (i + ys.length) * B := by
    have : valw (xs.take (i + 1)) * valw ys < B ^ (i + 1) * B ^ ys.length := Nat.mul_lt_mul_of_lt_of_le hA (Nat.le_of_lt hY) (Nat.pow_pos (by decide))
    rwa [show B ^ (i + 1) * B ^ ys.length = B ^ (i + ys.length) * B by rw [← Nat.pow_add, ← Nat.pow_succ]; congr 1; omega] at this
  have hd := valw_digit ls h2 (i + ys.length)
  have hs := valw_set ls (i + ys.length) (ls.getD (i + ys.length) 0 + ov) (by omega)
  generalize hP : B ^ (i + ys.length) = P at *
  have hPp : 0 < P := by rw [← hP]; exact Nat.pow_pos (by decide)
  have hlt : ls.getD (i + ys.length) 0 + ov < B := by
    have a1 : valw ls / P < B := by
      rw [Nat.div_lt_iff_lt_mul hPp, Nat.mul_comm]; omega
    rw [Nat.mod_eq_of_lt a1] at hd
    have a2 : (valw ls + ov * P) / P < B := by
      rw [Nat.div_lt_iff_lt_mul hPp, h4, Nat.mul_comm B P]; exact hV
    rw [Nat.add_mul_div_right _ _ hPp] at a2
    omega
  refine ⟨hlt, by simpa using h1, digs_set h2 _ _ hlt, ?_⟩
  rw [Nat.add_mul] at hs
  omega

theorem mul_end {xs ys ls : List Nat} (h : MulRow xs ys ls xs.length) : digs ls ∧ valw ls = valw xs * valw ys := by
  refine ⟨h.2.1, ?_⟩
  have := h.2.2
  rwa [List.take_length] at this
def mulS (a b : ByteArray) : ByteArray := if chk [a, b] = 0 then shortS (val a * val b) else str []
def mulE (a b : ByteArray) : Int := if chk [a, b] = 0 then shortE (val a * val b) else chk [a, b]
end BF

namespace BF
/-- a natural number as a string -/
def nat (n : Nat) : ByteArray := str (enc n)
/-- it is short -/
def small (n : Nat) : Prop := (enc n).length ≤ 256
instance (n : Nat) : Decidable (small n) := inferInstanceAs (Decidable ((enc n).length ≤ 256))
theorem nat_size (n : Nat) : (nat n).size = (enc n).length := rfl
theorem val_nat (n : Nat) : val (nat n) = n := dec_enc n
theorem nat_natB (n : Nat) : natB (nat n) = true := enc_natural n
theorem nat_val {s : ByteArray} (h : natB s = true) : nat (val s) = s := enc_val h
theorem small_lt {n : Nat} : small n ↔ n < 256 ^ 256 := enc_length_le_iff n 256
theorem small_mono {a b : Nat} (h : small b) (hab : a ≤ b) : small a := by
  rw [small_lt] at *; exact Nat.lt_of_le_of_lt hab h
theorem chk_nat1 {x : Nat} (hx : small x) : chk [nat x] = 0 := by
  apply chk_ok
  · simp [nat_natB]
  · have h1 : (nat x).size ≤ 256 := hx
    simp [h1]
theorem chk_nat2 {x y : Nat} (hx : small x) (hy : small y) : chk [nat x, nat y] = 0 := by
  apply chk_ok
  · simp [nat_natB]
  · have h1 : (nat x).size ≤ 256 := hx
    have h2 : (nat y).size ≤ 256 := hy
    simp [h1, h2]
theorem addS_nat {x y : Nat} (hx : small x) (hy : small y) (h : small (x + y)) : addS (nat x) (nat y) = nat (x + y) ∧ addE (nat x) (nat y) = 0 := by
  unfold addS addE
  rw [if_pos (chk_nat2 hx hy), if_pos (chk_nat2 hx hy), val_nat, val_nat]
  exact ⟨if_pos h, if_pos h⟩
theorem addS_long {x y : Nat} (hx : small x) (hy : small y) (h : ¬ small (x + y)) : addE (nat x) (nat y) = 2 := by
  unfold addE
  rw [if_pos (chk_nat2 hx hy), val_nat, val_nat]
  exact if_neg h
theorem mulS_nat {x y : Nat} (hx : small x) (hy : small y) (h : small (x * y)) : mulS (nat x) (nat y) = nat (x * y) ∧ mulE (nat x) (nat y) = 0 := by
  unfold mulS mulE
  rw [if_pos (chk_nat2 hx hy), if_pos (chk_nat2 hx hy), val_nat, val_nat]
  exact ⟨if_pos h, if_pos h⟩
theorem mulS_long {x y : Nat} (hx : small x) (hy : small y) (h : ¬ small (x * y)) : mulE (nat x) (nat y) = 2 := by
  unfold mulE
  rw [if_pos (chk_nat2 hx hy), val_nat, val_nat]
  exact if_neg h
theorem subS_nat {x y : Nat} (hx : small x) (hy : small y) (h : y ≤ x) : subS (nat x) (nat y) = nat (x - y) ∧ subE (nat x) (nat y) = 0 := by
  unfold subS subE
  rw [if_pos ⟨chk_nat2 hx hy, by rw [val_nat, val_nat]; exact h⟩, if_pos (chk_nat2 hx hy), if_pos (by rw [val_nat, val_nat]; exact h), val_nat, val_nat]
  exact ⟨rfl, rfl⟩
theorem nat_size_pos {y : Nat} (h : 0 < y) : (nat y).size ≠ 0 := by
  rw [nat_size]
  intro h0
  have := List.length_eq_zero_iff.1 h0
  rw [enc_eq_nil] at this
  omega
theorem divS_nat {x y : Nat} (hx : small x) (hy : small y) (h : 0 < y) : divQ (nat x) (nat y) = nat (x / y) ∧ divR (nat x) (nat y) = nat (x % y) ∧ divE (nat x) (nat y) = 0 := by
  have hz := nat_size_pos h
  have hok : divOk (nat x) (nat y) = true := by
    unfold divOk
    rw [decide_eq_true (chk_nat2 hx hy), decide_eq_true hz]; rfl
  unfold divQ divR divE
  rw [if_pos hok, if_pos hok, if_pos (chk_nat2 hx hy), if_pos hz, val_nat, val_nat]
  exact ⟨rfl, rfl, rfl⟩
theorem gcdS_nat {x y : Nat} (hx : small x) (hy : small y) : gcdS (nat x) (nat y) = nat (Nat.gcd x y) := by
  unfold gcdS
  rw [if_pos (chk_nat2 hx hy), val_nat, val_nat]; rfl
theorem cmpN_nat {x y : Nat} (hx : small x) (hy : small y) : cmpN (nat x) (nat y) = cmpNat x y := by
  unfold cmpN
  rw [if_pos (chk_nat2 hx hy), val_nat, val_nat]
theorem small_div {x : Nat} (h : small x) (y : Nat) : small (x / y) := small_mono h (Nat.div_le_self _ _)
theorem small_gcd {x y : Nat} (h : small x) (hx : 0 < x) : small (Nat.gcd x y) := small_mono h (Nat.le_of_dvd hx (Nat.gcd_dvd_left _ _))
theorem small_gcd' {x y : Nat} (h : small x) (h' : small y) : small (Nat.gcd x y) := by
  rcases Nat.eq_zero_or_pos x with h0 | h0
  · subst h0; simpa using h'
  · exact small_gcd h h0
theorem nat_small_max {x : Nat} (h : small x) : (nat x).size ≤ 256 := h
end BF
/- Plain laws on rational numbers as the program has them. No program in sight. -/
namespace BF

/-- a number with a sign -/
def sgn (neg : Bool) (n : Nat) : Int := if neg then -(n : Int) else n

theorem sgn_natAbs (neg : Bool) (n : Nat) : (sgn neg n).natAbs = n := by
  unfold sgn; cases neg <;> simp

/-- a quotient of a number with a sign -/
def mkQ (neg : Bool) (n d : Nat) : Rat := mkRat (sgn neg n) d

theorem mkQ_num (neg : Bool) (n d : Nat) (hd : 0 < d) : (mkQ neg n d).num = sgn neg (n / Nat.gcd n d) := by
  unfold mkQ
  rw [Rat.num_mkRat, if_neg (by omega), sgn_natAbs, Nat.gcd_comm]
  unfold sgn
  cases neg
  · simp
  · simp only [if_true]
    rw [Int.neg_ediv_of_dvd (Int.natCast_dvd_natCast.2 (Nat.gcd_dvd_left n d))]
    simp

theorem mkQ_natAbs (neg : Bool) (n d : Nat) (hd : 0 < d) : (mkQ neg n d).num.natAbs = n / Nat.gcd n d := by
  rw [mkQ_num neg n d hd, sgn_natAbs]

theorem mkQ_den (neg : Bool) (n d : Nat) (hd : 0 < d) : (mkQ neg n d).den = d / Nat.gcd n d := by
  unfold mkQ
  rw [Rat.den_mkRat, if_neg (by omega), sgn_natAbs, Nat.gcd_comm]

theorem lt_zero_iff (q : Rat) : q < 0 ↔ q.num < 0 := by
  rw [Rat.lt_iff]; simp

theorem mkQ_neg (neg : Bool) (n d : Nat) (hd : 0 < d) : decide (mkQ neg n d < 0) = (neg && decide (n / Nat.gcd n d ≠ 0)) := by
  rw [Bool.eq_iff_iff]
  simp only [decide_eq_true_eq, Bool.and_eq_true]
  rw [lt_zero_iff, mkQ_num neg n d hd]
  generalize n / Nat.gcd n d = m
  unfold sgn
  cases neg <;> simp <;> omega

theorem den_pos (q : Rat) : 0 < q.den := Nat.pos_of_ne_zero q.den_nz

/-- a valid ratio: its parts -/
theorem mkQ_self (q : Rat) : mkQ (decide (q < 0)) q.num.natAbs q.den = q := by
  unfold mkQ
  have : sgn (decide (q < 0)) q.num.natAbs = q.num := by
    unfold sgn
    by_cases h : q < 0
    · have := (lt_zero_iff q).1 h
      simp [h]; omega
    · have : ¬ q.num < 0 := fun h2 => h ((lt_zero_iff q).2 h2)
      simp [h]; omega
  rw [this, Rat.mkRat_self]

/-- the sum of two numbers with signs -/
def saddNeg (n1 : Bool) (x1 : Nat) (n2 : Bool) (x2 : Nat) : Bool := if n1 = n2 then n1 else if x1 < x2 then n2 else n1
def saddN (n1 : Bool) (x1 : Nat) (n2 : Bool) (x2 : Nat) : Nat := if n1 = n2 then x1 + x2 else if x1 < x2 then x2 - x1 else x1 - x2

theorem sadd_eq (n1 : Bool) (x1 : Nat) (n2 : Bool) (x2 : Nat) : sgn (saddNeg n1 x1 n2 x2) (saddN n1 x1 n2 x2) = sgn n1 x1 + sgn n2 x2 := by
  unfold saddNeg saddN sgn
  cases n1 <;> cases n2 <;> simp <;> (try omega)
  all_goals (by_cases h : x1 < x2 <;> simp [h] <;> omega)

theorem sgn_mul (a b : Bool) (x y : Nat) : sgn (a != b) (x * y) = sgn a x * sgn b y := by
  unfold sgn
  cases a <;> cases b <;> simp [Int.neg_mul, Int.mul_neg]

theorem sgn_mul_nat (a : Bool) (x y : Nat) : sgn a (x * y) = sgn a x * (y : Int) := by
  unfold sgn
  cases a <;> simp [Int.neg_mul]

theorem add_mkQ (a b : Bool) (x y : Nat) {c d : Nat} (hc : 0 < c) (hd : 0 < d) :
    mkQ a x c + mkQ b y d = mkQ (saddNeg a (x * d) b (y * c)) (saddN a (x * d) b (y * c)) (c * d) := by
  unfold mkQ
  rw [Rat.mkRat_add_mkRat _ _ (by omega) (by omega), sadd_eq, sgn_mul_nat, sgn_mul_nat]

theorem mul_mkQ (a b : Bool) (x y c d : Nat) : mkQ a x c * mkQ b y d = mkQ (a != b) (x * y) (c * d) := by
  unfold mkQ
  rw [Rat.mkRat_mul_mkRat, sgn_mul]

end BF

namespace BF
/-- a ratio is valid -/
def ratOk (neg : Bool) (n d : ByteArray) : Bool :=
  decide (chk [n] = 0) && decide (chk [d] = 0) && decide (d.size ≠ 0) && !(neg && decide (n.size = 0)) && decide (Nat.gcd (val n) (val d) = 1)

theorem chk1_ok {a : ByteArray} (h : chk [a] = 0) : natB a = true ∧ a.size ≤ 256 := by
  unfold chk at h
  split at h
  · rename_i h1
    split at h
    · rename_i h2
      simp at h1 h2
      exact ⟨h1, h2⟩
    · cases h
  · cases h

theorem chk2_of {a b : ByteArray} (h1 : chk [a] = 0) (h2 : chk [b] = 0) : chk [a, b] = 0 := by
  obtain ⟨a1, a2⟩ := chk1_ok h1
  obtain ⟨b1, b2⟩ := chk1_ok h2
  exact chk_ok _ (by simp [a1, b1]) (by simp [a2, b2])

theorem nat_of_ok {a : ByteArray} (h : chk [a] = 0) : a = nat (val a) ∧ small (val a) := by
  obtain ⟨a1, a2⟩ := chk1_ok h
  have e := nat_val a1
  exact ⟨e.symm, by rw [← e] at a2; exact a2⟩

theorem ratOk_q (q : Rat) (h1 : small q.num.natAbs) (h2 : small q.den) : ratOk (decide (q < 0)) (nat q.num.natAbs) (nat q.den) = true := by
  unfold ratOk
  rw [chk_nat1 h1, chk_nat1 h2, val_nat, val_nat]
  have h3 := nat_size_pos (den_pos q)
  have h4 : Nat.gcd q.num.natAbs q.den = 1 := q.reduced
  have h5 : (decide (q < 0) && decide ((nat q.num.natAbs).size = 0)) = false := by
    rw [Bool.eq_false_iff]
    intro h
    simp only [Bool.and_eq_true, decide_eq_true_eq] at h
    have h6 := (lt_zero_iff q).1 h.1
    have h7 : (enc q.num.natAbs).length = 0 := h.2
    have := enc_eq_nil.1 (List.length_eq_zero_iff.1 h7)
    omega
  rw [h5, decide_eq_true h3, decide_eq_true h4]
  rfl

/-- the number that a valid ratio is -/
theorem ratOk_is (neg : Bool) (n d : ByteArray) (h : ratOk neg n d = true) :
    ∃ q : Rat, neg = decide (q < 0) ∧ n = nat q.num.natAbs ∧ d = nat q.den ∧ small q.num.natAbs ∧ small q.den := by
  unfold ratOk at h
  simp only [Bool.and_eq_true, decide_eq_true_eq, Bool.not_eq_true'] at h
  obtain ⟨⟨⟨⟨h1, h2⟩, h3⟩, h4⟩, h5⟩ := h
  obtain ⟨e1, s1⟩ := nat_of_ok h1
  obtain ⟨e2, s2⟩ := nat_of_ok h2
  have hdp : 0 < val d := val_pos (chk1_ok h2).1 h3
  refine ⟨mkQ neg (val n) (val d), ?_, ?_, ?_, ?_, ?_⟩
  · rw [mkQ_neg _ _ _ hdp, h5, Nat.div_one]
    cases neg with
    | false => rfl
    | true =>
      simp only [Bool.true_and] at h4 ⊢
      have hz : n.size ≠ 0 := of_decide_eq_false h4
      have := val_pos (chk1_ok h1).1 hz
      exact (decide_eq_true (by omega)).symm
  · rw [mkQ_natAbs _ _ _ hdp, h5, Nat.div_one]; exact e1
  · rw [mkQ_den _ _ _ hdp, h5, Nat.div_one]; exact e2
  · rw [mkQ_natAbs _ _ _ hdp, h5, Nat.div_one]; exact s1
  · rw [mkQ_den _ _ _ hdp, h5, Nat.div_one]; exact s2
end BF
