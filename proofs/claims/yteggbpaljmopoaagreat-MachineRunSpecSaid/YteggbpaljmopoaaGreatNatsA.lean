/- The package naturals: what its first functions return. Conditions: those that each theorem states. -/
import Derived.Test.YteggbpaljmopoaaGreatProg
import Derived.WalkKit
import Derived.Deep.QuietTactic
import Derived.BigQuiet
import Derived.Lib.Hide
import Derived.Test.YteggbpaljmopoaaGreatPlain
set_option linter.unusedVariables false
set_option linter.unusedSimpArgs false
/- Words for slices of numbers and bytes in memory. -/
namespace Go.Proofs.YteggbpaljmopoaaGreat
open Go.RowKit BF
def U64 (n : Nat) : Value := .int .u64 n

def u64s (w : World) (base : Nat) (v : Value) (xs : List Nat) : Prop := w.ownsRow base 141 1 v xs.length (xs.map U64)

theorem u64s_cases {w : World} {base : Nat} {v : Value} {xs : List Nat} (h : u64s w base v xs) :
    (v = .slice none 0 0 ∧ xs = []) ∨ ∃ g cap, v = .slice (some ⟨g, 0, none⟩) xs.length cap ∧ base ≤ g ∧ g < w.heap.size ∧ xs.length ≤ cap ∧ cap ≤ maxLen ∧
      (∀ j, j < xs.length → w.cell? ⟨g, j, none⟩ = some (U64 (xs.getD j 0))) ∧ (∀ j, w.frozen? ⟨g, j, none⟩ = false) := by
  have h0 := h
  obtain ⟨_, h | ⟨g, cap, cur, rfl, h1, h2, h3, h4, h5, h6⟩⟩ := h
  · left; exact ⟨h.1, List.length_eq_zero_iff.1 h.2⟩
  · right
    refine ⟨g, cap, rfl, h1, (Array.getElem?_eq_some_iff.1 h2).1, h3, h4, fun j hj => ?_, fun j => h0.frozenAt j⟩
    rw [h0.cellAt j (by omega)]
    simp [hj]

/-- a part of an owned row from its beginning on -/
theorem u64s_take {w : World} {base g cap : Nat} {xs : List Nat} (h : u64s w base (.slice (some ⟨g, 0, none⟩) xs.length cap) xs) (k : Nat) (hk : k ≤ xs.length) :
    u64s w base (.slice (some ⟨g, 0, none⟩) k cap) (xs.take k) := by
  obtain ⟨_, h | ⟨g', cap', cur, e, h1, h2, h3, h4, h5, h6⟩⟩ := h
  · cases h.1
  · cases e
    refine ⟨by simp [Nat.min_eq_left hk], .inr ⟨g, cap, cur, by simp [Nat.min_eq_left hk], h1, h2, by simp; omega, h4, h5, ?_⟩⟩
    simp only [List.length_take, Nat.min_eq_left hk, Nat.mul_one] at h6 ⊢
    rw [List.map_take, ← h6, List.take_take, Nat.min_eq_left hk]


def lenOf : Value → Nat | .slice _ n _ => n | _ => 0

def U8 (b : UInt8) : Value := .int .u8 b.toNat
def u8s (w : World) (base : Nat) (v : Value) (xs : List UInt8) : Prop := w.ownsRow base 5 1 v xs.length (xs.map U8)

theorem info5 : (Tryz.prog.info? 5).map (fun i => (i.zero, i.size, i.bytes)) = some (some (.int .u8 0), 1, 1) := by kernel_rfl

theorem one_cell (w : World) (u : Value) (E : TypeId) : ∀ (j : Nat) (x : Value), [u][j]? = some x → (w.alloc (.cells #[u] E)).cell? ((⟨w.heap.size, 0, none⟩ : Addr).add j) = some x := by
  intro j x hj
  match j, hj with
  | 0, hj => simp at hj; subst hj; simp [Addr.add]

theorem one_one (u : Value) (h : u.oneCell' = true) : ∀ x ∈ [u], x.oneCell' = true := by
  intro x hx; simp at hx; subst hx; exact h

theorem u8s_string {w : World} {base : Nat} {v : Value} {xs : List UInt8} (h : u8s w base v xs) :
    (convert 149 9 v).run Tryz.prog w = .ok (.string ⟨xs.toArray⟩) w := by
  have h0 := h
  obtain ⟨_, h | ⟨g, cap, cur, rfl, h1, h2, h3, h4, h5, h6⟩⟩ := h
  · obtain ⟨rfl, h⟩ := h
    have := List.length_eq_zero_iff.1 h
    subst this
    exact run_convert_bytes_nil w 149 5 Tryz.underlying149 Tryz.underlying5 0 0 9 Tryz.underlying9
  · have := run_convert_bytes_arg w 149 5 Tryz.underlying149 Tryz.underlying5 g 0 xs.length cap (xs.map fun b => (b.toNat : Int)) (by simp) (fun i hi => by
      have := h0.cellAt i (by omega)
      rw [Nat.zero_add, this]
      simp [hi, U8]) 9 Tryz.underlying9
    have e : strOfNums (xs.map fun b => (b.toNat : Int)) = ⟨xs.toArray⟩ := by
      have e2 : ((xs.map fun b => (b.toNat : Int)).map fun n => UInt8.ofNat n.toNat) = xs := by
        rw [List.map_map]
        conv => rhs; rw [← List.map_id xs]
        apply List.map_congr_left
        intro a _
        simp
      unfold strOfNums
      rw [e2]
    rw [this, e]


theorem u8s_form {w : World} {base : Nat} {v : Value} {xs : List UInt8} (h : u8s w base v xs) : ∃ a c, v = .slice a xs.length c ∧ (a = none → xs = []) := by
  obtain ⟨_, h | ⟨g, cap, cur, rfl, h1, h2, h3, h4, h5, h6⟩⟩ := h
  · obtain ⟨rfl, h⟩ := h
    have := List.length_eq_zero_iff.1 h
    subst this
    exact ⟨_, _, rfl, fun _ => rfl⟩
  · exact ⟨_, _, rfl, fun h => by cases h⟩

theorem u8s_app {w : World} {base : Nat} {v : Value} {s : List UInt8} {x : Int} {c : Nat} (h : w.ownsRow base 5 1 v (s.length + 1) (s.map U8 ++ [.int .u8 x])) (hx : x = (c : Int)) (hc : c < 256) :
    u8s w base v (s ++ [UInt8.ofNat c]) := by
  subst hx
  unfold u8s
  have e : (s ++ [UInt8.ofNat c]).map U8 = s.map U8 ++ [.int .u8 (c : Int)] := by
    simp [U8, Nat.mod_eq_of_lt hc]
  rw [e]
  simpa using h


theorem text_rel_app {E' E s : List UInt8} {c : Nat} (e' : E' = E) (e : E = if c ≠ 0 ∨ s ≠ [] then s ++ [UInt8.ofNat c] else s) (h : c ≠ 0 ∨ 0 < s.length) : Hid (s ++ [UInt8.ofNat c] = E') := by
  rw [e', e, if_pos]
  · exact rfl
  · rcases h with h | h
    · exact .inl h
    · exact .inr (by intro h0; subst h0; simp at h)

theorem text_rel_skip {E' E s : List UInt8} {c : Nat} (e' : E' = E) (e : E = if c ≠ 0 ∨ s ≠ [] then s ++ [UInt8.ofNat c] else s) (h1 : c = 0) (h2 : ¬ 0 < s.length) : Hid (s = E') := by
  have : s = [] := List.length_eq_zero_iff.1 (by omega)
  subst this
  rw [e', e, if_neg]
  · exact rfl
  · simp [h1]
/-- an owned row of digits at a block: 'n' of them -/
def row64 (w : World) (base g n cap : Nat) (zs : List Nat) : Prop := w.ownsRow base 141 1 (.slice (some ⟨g, 0, none⟩) n cap) n (zs.map U64)

theorem row64_of {w : World} {base g cap : Nat} {zs : List Nat} (h : u64s w base (.slice (some ⟨g, 0, none⟩) zs.length cap) zs) : row64 w base g zs.length cap zs := h
theorem row64_to {w : World} {base g n cap : Nat} {zs : List Nat} (h : row64 w base g n cap zs) : u64s w base (.slice (some ⟨g, 0, none⟩) n cap) zs := by
  have : zs.length = n := by have := h.1; simpa using this
  subst this; exact h
theorem row64_len {w : World} {base g n cap : Nat} {zs : List Nat} (h : row64 w base g n cap zs) : zs.length = n := by have := h.1; simpa using this
theorem row64_cell {w : World} {base g n cap : Nat} {zs : List Nat} (h : row64 w base g n cap zs) (j : Nat) (hj : j < n) : w.cell? ⟨g, j, none⟩ = some (.int .u64 ((zs.getD j 0 : Nat) : Int)) := by
  rw [World.ownsRow.cellAt h j (by omega)]
  have := row64_len h
  simp [show j < zs.length by omega, U64]
theorem row64_frozen {w : World} {base g n cap : Nat} {zs : List Nat} (h : row64 w base g n cap zs) (j : Nat) : w.frozen? ⟨g, j, none⟩ = false := World.ownsRow.frozenAt h j
theorem row64_lt {w : World} {base g n cap : Nat} {zs : List Nat} (h : row64 w base g n cap zs) : base ≤ g ∧ g < w.heap.size := World.ownsRow.lt h g rfl
theorem row64_set {w : World} {base g n cap : Nat} {zs : List Nat} (h : row64 w base g n cap zs) (j : Nat) (x : Int) (d : Nat) (hx : x = (d : Int)) :
    row64 (w.setCell ⟨g, j, none⟩ (.int .u64 x)) base g n cap (zs.set j d) ∧ w.grownBy (w.setCell ⟨g, j, none⟩ (.int .u64 x)) (some g) := by
  subst hx
  have := World.ownsRow.stored h j (.int .u64 (d : Int))
  rw [show (.int .u64 (d : Int)) = U64 d from rfl, ← List.map_set] at this
  exact this

theorem grownBy_refl (w : World) (r : Option Nat) : w.grownBy w r := ⟨rfl, rfl, rfl, Nat.le_refl _, fun _ _ _ => rfl⟩
theorem grownBy_trans {a b c : World} {r : Option Nat} (h : a.grownBy b r) (k : b.grownBy c r) : a.grownBy c r :=
  ⟨k.os.trans h.os, k.tape.trans h.tape, k.output.trans h.output, Nat.le_trans h.size k.size, fun i hi hr => (k.block i (Nat.lt_of_lt_of_le hi h.size) hr).trans (h.block i hi hr)⟩
theorem grownBy_drew {a b : World} {r : Option Nat} (h : a.grownBy b r) : a.grownBy b.drew r := ⟨h.os, h.tape, h.output, h.size, h.block⟩
theorem grownBy_drewN {a b : World} {r : Option Nat} (h : a.grownBy b r) (n : Nat) : a.grownBy (b.drewN n) r := ⟨h.os, h.tape, h.output, h.size, h.block⟩
theorem grownBy_below {a b : World} {r : Option Nat} (h : a.grownBy b r) {B' : Nat} (hB : B' ≤ a.heap.size) (hr : ∀ k, r = some k → B' ≤ k) : Below B' a b := (Below.refl B' a).grown h hB hr
theorem below_drewN {B' : Nat} {a w : World} (h : Below B' a w) (n : Nat) : Below B' a (w.drewN n) := ⟨h.os, h.tape, h.output, h.size, h.block⟩

theorem u64s_grown {w w' : World} {base : Nat} {v : Value} {xs : List Nat} {r : Option Nat} (h : u64s w base v xs) (hg : w.grownBy w' r) (hne : v.ownBlock = none ∨ v.ownBlock ≠ r) : u64s w' base v xs := World.ownsRow.kept h hg hne
theorem u64s_below {w w' : World} {base B' : Nat} {v : Value} {xs : List Nat} (h : u64s w base v xs) (hg : Below B' w w') (hne : ∀ k, v.ownBlock = some k → k < B') : u64s w' base v xs := by
  obtain ⟨h0, h | ⟨g, cap, cur, rfl, h1, h2, h3⟩⟩ := h
  · exact ⟨h0, .inl h⟩
  · exact ⟨h0, .inr ⟨g, cap, cur, rfl, h1, (hg.block g (hne g rfl)).trans h2, h3⟩⟩
theorem u64s_lt {w : World} {base : Nat} {v : Value} {xs : List Nat} (h : u64s w base v xs) : ∀ k, v.ownBlock = some k → base ≤ k ∧ k < w.heap.size := World.ownsRow.lt h
theorem u64s_mono {w : World} {base base' : Nat} {v : Value} {xs : List Nat} (h : u64s w base v xs) (hb : base' ≤ base) : u64s w base' v xs := by
  obtain ⟨h0, h | ⟨g, cap, cur, rfl, h1, h2, h3⟩⟩ := h
  · exact ⟨h0, .inl h⟩
  · exact ⟨h0, .inr ⟨g, cap, cur, rfl, by omega, h2, h3⟩⟩

theorem or_bit64 (x b : Nat) (hx : x < 4294967296) (hb : b ≤ 1) : bits .or .u64 ((x : Int) * 2) (b : Int) = (x : Int) * 2 + b := by
  have h := u64_or_nat (2 * x) b (by omega) (by omega)
  rw [shl_or_bit x b hb] at h
  rw [show (x : Int) * 2 = ((2 * x : Nat) : Int) by omega, h]
  omega

theorem mask32 (y : Nat) (h : y < 18446744073709551616) : bits .and .u64 (y : Int) 4294967295 = (y : Int) % 4294967296 := by
  have e := u64_and_nat y 4294967295 h (by decide)
  have e2 : y &&& 4294967295 = y % 4294967296 := Nat.and_two_pow_sub_one_eq_mod y 32
  rw [e2] at e
  exact e

theorem mask32i (y : Int) (h0 : 0 ≤ y) (h : y < 18446744073709551616) : bits .and .u64 y 4294967295 = y % 4294967296 := by
  obtain ⟨n, rfl⟩ := Int.eq_ofNat_of_zero_le h0
  exact mask32 n (by omega)

theorem u64s_app {w : World} {base n : Nat} {v : Value} {zs : List Nat} {x : Int} (d : Nat) (h : w.ownsRow base 141 1 v (n + 1) (zs.map U64 ++ [.int .u64 x])) (hx : x = (d : Int)) : u64s w base v (zs ++ [d]) := by
  subst hx
  unfold u64s
  have e : (zs ++ [d]).map U64 = zs.map U64 ++ [.int .u64 (d : Int)] := by simp [U64]
  have hl := h.1
  simp at hl
  rw [e]
  simp only [List.length_append, List.length_cons, List.length_nil, Nat.zero_add, hl]
  exact h

theorem or_byte64 (d b s : Nat) (hd : d % 2 ^ (s + 8) = 0) (hb : b < 256) (hdb : d < 4294967296) (hs : s ≤ 24) (y : Int) (hy : y = ((b * 2 ^ s : Nat) : Int)) :
    bits .or .u64 (d : Int) y = (d : Int) + y := by
  subst hy
  have h1 : b * 2 ^ s ≤ 255 * 2 ^ 24 := Nat.mul_le_mul (by omega) (Nat.pow_le_pow_right (by decide) hs)
  have h := u64_or_nat d (b * 2 ^ s) (by omega) (by omega)
  rw [BF.or_byte d b s hd hb] at h
  rw [h]; omega

theorem and_one64 (d j b : Nat) (hd : d < 4294967296) (h : d / 2 ^ j % 2 = b) : bits .and .u64 ((d : Int) / 2 ^ j) 1 = (b : Int) := by
  have h0 : d / 2 ^ j ≤ d := Nat.div_le_self _ _
  have e := u64_and_nat (d / 2 ^ j) 1 (by omega) (by omega)
  rw [show (d / 2 ^ j) &&& 1 = b from by rw [← h]; exact Nat.and_two_pow_sub_one_eq_mod _ 1] at e
  rw [← e]
  simp

theorem u64s_form {w : World} {base : Nat} {v : Value} {xs : List Nat} (h : u64s w base v xs) : ∃ a c, v = .slice a xs.length c := by
  rcases u64s_cases h with ⟨rfl, rfl⟩ | ⟨g, cap, rfl, _⟩
  · exact ⟨_, _, rfl⟩
  · exact ⟨_, _, rfl⟩

theorem or_pow64 (d j y : Nat) (hd : d < 4294967296) (hj : j < 32) (h : y = d ||| 2 ^ j) : bits .or .u64 (d : Int) (2 ^ j) = (y : Int) := by
  have h1 : 2 ^ j < 2 ^ 32 := Nat.pow_lt_pow_right (by decide) hj
  have e := u64_or_nat d (2 ^ j) (by omega) (by omega)
  rw [← h] at e
  rw [← e]
  simp

theorem shl_one64 (j : Nat) (hj : j < 32) : (2 : Int) ^ j % 18446744073709551616 = 2 ^ j := by
  have h1 : 2 ^ j < 2 ^ 32 := Nat.pow_lt_pow_right (by decide) hj
  have e : ((2 ^ j : Nat) : Int) = (2 : Int) ^ j := by simp
  rw [← e]
  generalize 2 ^ j = p at *
  omega

/-- what lay below reads as before -/
theorem bcell {W w1 : World} (hb : Below W.heap.size W w1) : (∀ b o, b < W.heap.size → w1.cell? ⟨b, o, none⟩ = W.cell? ⟨b, o, none⟩) ∧ (∀ b o, b < W.heap.size → w1.frozen? ⟨b, o, none⟩ = W.frozen? ⟨b, o, none⟩) :=
  ⟨fun b o h => hb.cell (p := ⟨b, o, none⟩) h, fun b o h => hb.frozen (p := ⟨b, o, none⟩) h⟩

/-- a block of cells known whole -/
def Blk (W : World) (b : Nat) (T : TypeId) (vs : Array Value) : Prop := W.heap[b]? = some (.cells vs T (0, 0))
theorem Blk.lt {W : World} {b : Nat} {T : TypeId} {vs : Array Value} (h : Blk W b T vs) : b < W.heap.size := (Array.getElem?_eq_some_iff.1 h).1
theorem Blk.cell {W : World} {b : Nat} {T : TypeId} {vs : Array Value} (h : Blk W b T vs) {i : Nat} {v : Value} (hi : vs[i]? = some v) : W.cell? ⟨b, i, none⟩ = some v := by
  simp only [World.cell?, show W.heap[b]? = _ from h]; simpa using hi
theorem Blk.frozen {W : World} {b : Nat} {T : TypeId} {vs : Array Value} (h : Blk W b T vs) (i : Nat) : W.frozen? ⟨b, i, none⟩ = false := by
  simp [World.frozen?, show W.heap[b]? = _ from h]
theorem Blk.new (W : World) (T : TypeId) (vs : Array Value) : Blk (W.alloc (.cells vs T)) W.heap.size T vs := by
  show (W.heap.push _)[W.heap.size]? = _
  simp
theorem Blk.new' (W : World) (b : Nat) (T : TypeId) (vs : Array Value) (hb : b = W.heap.size) : Blk (W.alloc (.cells vs T)) b T vs := by subst hb; exact Blk.new W T vs
theorem Blk.below {W W' : World} {b B' : Nat} {T : TypeId} {vs : Array Value} (h : Blk W b T vs) (hb : Below B' W W') (hlt : b < B') : Blk W' b T vs := (hb.block b hlt).trans h
theorem Blk.under {W W' : World} {b : Nat} {T : TypeId} {vs : Array Value} (h : Blk W b T vs) (hb : Below W.heap.size W W') : Blk W' b T vs := h.below hb h.lt
theorem Blk.kept {W W' : World} {b : Nat} {T : TypeId} {vs : Array Value} {row : Option Nat} (h : Blk W b T vs) (hg : W.grownBy W' row) (hne : some b ≠ row) : Blk W' b T vs := (hg.block b h.lt hne).trans h
theorem Blk.alloc {W : World} {b : Nat} {T : TypeId} {vs : Array Value} (h : Blk W b T vs) (o : Obj) : Blk (W.alloc o) b T vs := h.kept (World.grownBy_alloc W o none) (by simp)
theorem Blk.drewN {W : World} {b : Nat} {T : TypeId} {vs : Array Value} (h : Blk W b T vs) (n : Nat) : Blk (W.drewN n) b T vs := h
theorem Blk.drew {W : World} {b : Nat} {T : TypeId} {vs : Array Value} (h : Blk W b T vs) : Blk W.drew b T vs := h
theorem Blk.set {W : World} {b i : Nat} {T : TypeId} {vs : Array Value} (h : Blk W b T vs) (v : Value) : Blk (W.setCell ⟨b, i, none⟩ v) b T (vs.setIfInBounds i v) := by
  unfold Blk at *
  simp [World.setCell, Array.getElem?_modify, h]
theorem Blk.other {W : World} {b i c : Nat} {T : TypeId} {vs : Array Value} (h : Blk W b T vs) (v : Value) (hne : b ≠ c) : Blk (W.setCell ⟨c, i, none⟩ v) b T vs :=
  (Below.heap_setCell W ⟨c, i, none⟩ v b hne).trans h
end Go.Proofs.YteggbpaljmopoaaGreat
/- Walks of naturals: trim, text. -/
namespace Go.Proofs.YteggbpaljmopoaaGreat
open Go.RowKit BF

set_option maxHeartbeats 400000 in
theorem trim_any (base : Nat) (v : Value) (xs : List Nat) (w : World) (h : u64s w base v xs) :
    Calls Tryz.prog 97 #[v] w fun e w' => (∃ v', e = .returned v' ∧ u64s w base v' (trimL xs)) ∧ w = w' := by
  rcases u64s_cases h with ⟨rfl, rfl⟩ | ⟨g, cap, rfl, h1, h2, h3, h4, h5, h6⟩
  · have H := Lib.hid h
    clear h
    go_enter Tryz.func97, Tryz.ntmps97
    go_wp2
    go_loop [0] (fun t => t = .slice none 0 0) (fun _ => 0)
    case atStart => rfl
    case round =>
      subst hrel
      go_wp2
      go_ret
      exact ⟨⟨_, rfl, H.out⟩, rfl⟩
  · have H5 := Lib.hid h5
    have H6 := Lib.hid h6
    have H := Lib.hid h
    clear h5 h6 h
    unfold maxLen at h4
    go_enter Tryz.func97, Tryz.ntmps97
    go_wp2
    go_loop [0] (fun t => ∃ k : Nat, k ≤ xs.length ∧ t = .slice (some ⟨g, 0, none⟩) k cap ∧ Hid (trimL xs = trimTo xs k)) (fun t => lenOf t)
    case atStart => exact ⟨_, Nat.le_refl _, rfl, rfl⟩
    case round =>
      obtain ⟨k, hk, rfl, ht⟩ := hrel
      cases k with
      | zero =>
        go_wp2
        go_ret
        exact ⟨⟨_, rfl, by rw [ht.out]; exact u64s_take H.out 0 (by omega)⟩, rfl⟩
      | succ k =>
        have hc := H5.out k (by omega)
        have HT : Hid (trimTo xs (k + 1) = if xs.getD k 0 = 0 then trimTo xs k else xs.take (k + 1)) := rfl
        unfold U64 at hc
        generalize xs.getD k 0 = x at *
        by_cases hx : x = 0
        · subst hx
          go_wp2
          go_round
          case rel => exact ⟨k, by omega, rfl, by rw [ht.out, HT.out, if_pos rfl]; exact rfl⟩
          case measure => simp [lenOf]
        · have hx' : ((x : Int) == 0) = false := by simp; omega
          go_wp2
          go_ret
          exact ⟨⟨_, rfl, by rw [ht.out, HT.out, if_neg hx]; exact u64s_take H.out (k + 1) (by omega)⟩, rfl⟩
set_option maxRecDepth 100000 in
set_option maxHeartbeats 1000000 in
theorem text_any (base : Nat) (v : Value) (xs : List Nat) (w : World) (h : u64s w base v xs) (hd : digs xs) (hlen : xs.length ≤ 1000) :
    Calls Tryz.prog 60 #[v] w fun e w' => e = .returned (.string ⟨(enc (valw xs)).toArray⟩) ∧ Below w.heap.size w w' := by
  obtain ⟨i0, hi, hz0, hz1, hz2⟩ := info_parts info5
  have hl : (trimL xs).length ≤ 1000 := Nat.le_trans (trimTo_len xs _) hlen
  have hc := trimL_canon hd
  have HT := Lib.hid (trim_any base v xs w h)
  have HV := Lib.hid (trimL_val xs)
  clear h hd
  generalize trimL xs = ys at *
  have HC := Lib.hid hc
  clear hc
  go_enter Tryz.func60, Tryz.ntmps60
  go_wp2_with (go_at_call 97; refine HT.out.mono ?_; rintro e w' ⟨⟨v', rfl, hv'⟩, rfl⟩; have HW := Lib.hid hv'; rcases u64s_cases hv' with ⟨rfl, ht⟩ | ⟨g, cap, rfl, h1, h2, h3, h4, h5, h6⟩ <;> clear hv')
  · subst ht
    go_loop [3, 4] (fun b i => b = .slice none 0 0 ∧ i = .int .i64 (-1)) (fun _ _ => 0)
    case atStart => exact ⟨rfl, rfl⟩
    case round =>
      obtain ⟨rfl, rfl⟩ := hrel
      have hcv := run_convert_bytes_nil w 149 5 Tryz.underlying149 Tryz.underlying5 0 0 9 Tryz.underlying9
      go_wp2
      go_ret
      exact ⟨by rw [← HV.out]; rfl, Below.refl _ _⟩
  · have H5 := Lib.hid h5
    have H6 := Lib.hid h6
    clear h5 h6
    have hsz : w.heap.size ≤ w.heap.size := Nat.le_refl _
    go_loopw [3, 4] (fun b i wr => ∃ (k : Nat) (s : List UInt8), k ≤ ys.length ∧ i = .int .i64 ((k : Int) - 1) ∧ u8s wr w.heap.size b s ∧ Hid (s = enc (valw ys / B ^ k)) ∧ Below w.heap.size w wr) (fun _ i _ => (intOf i + 1).toNat)
    case atStart => exact ⟨ys.length, _, Nat.le_refl _, rfl, by rw [Nat.div_eq_of_lt (valw_lt _ HC.out.1)]; exact World.ownsRow_nil _ _ _ _, rfl, Below.refl _ _⟩
    case round =>
      obtain ⟨k, s, hk, rfl, hb, hs, hB⟩ := hrel
      have HB := Lib.hid hb
      clear hb
      cases k with
      | zero =>
        have hcv := u8s_string HB.out
        go_wp2
        go_ret
        refine ⟨?_, hB⟩
        have e : s = enc (valw xs) := by rw [hs.out, Nat.pow_zero, Nat.div_one, HV.out]
        rw [← e]; rfl
      | succ k =>
        rw [show ((k+1 : Nat) : Int) - 1 = (k : Int) by omega]
        have hx := H5.out k (by omega)
        have h2' := h2
        have hstep := valw_div_step ys HC.out.1 k
        have htext := text_step (valw ys / B ^ (k + 1)) (ys.getD k 0)
        have hdl := digs_getD HC.out.1 k
        rw [← hstep] at htext
        unfold U64 at hx
        unfold B at hdl
        have hs4 : s = enc (valw ys / B ^ k / 256 ^ 4) := by rw [hs.out, Nat.div_div_eq_div_mul, Nat.pow_succ]
        have HT := Lib.hid htext
        have HS := Lib.hid hs4
        clear hs htext hstep hs4
        generalize ys.getD k 0 = d at *
        have HX := Lib.hid hx
        clear hx
        obtain ⟨wo, hwo⟩ : ∃ wo : World, wo = wr := ⟨_, rfl⟩
        subst hwo
        go_wp2
        go_loopw [3, 5, 6] (fun b i _ wr => ∃ (j : Nat) (s : List UInt8), j ≤ 4 ∧ i = .int .i64 ((j : Int) - 1) ∧ u8s wr w.heap.size b s ∧ Hid (s = enc (valw ys / B ^ k / 256 ^ j)) ∧ Below w.heap.size w wr) (fun _ i _ _ => (intOf i + 1).toNat)
        case atStart => exact ⟨4, _, Nat.le_refl _, rfl, HB.out, HS.out, hB⟩
        case round =>
          obtain ⟨j, s, hj, rfl, hb, hs, hB⟩ := hrel
          have HB2 := Lib.hid hb
          clear hb
          cases j with
          | zero =>
            go_wp2
            go_roundw
            case rel => exact ⟨k, s, by omega, rfl, HB2.out, by rw [hs.out, Nat.pow_zero, Nat.div_one]; exact rfl, hB⟩
            case measure => simp [intOf]
          | succ j =>
            have hx2 := (hB.cell (p := ⟨g, k, none⟩) h2).trans HX.out
            have hsl : s.length ≤ 4000 := by
              have := enc_small HC.out.1 (q := valw ys / B ^ k / 256 ^ (j + 1)) (Nat.le_trans (Nat.div_le_self _ _) (Nat.div_le_self _ _))
              rw [← hs.out] at this
              omega
            have e := HT.out j (by omega)
            rw [← hs.out] at e
            generalize hEE : enc (valw ys / B ^ k / 256 ^ j) = E at e
            have HEE := Lib.hid hEE
            clear hEE
            obtain ⟨ab, cp, hba, hbn⟩ := u8s_form HB2.out
            subst hba
            have hb3 := HB2.out
            have hsz3 := hB.size
            rw [show ((j+1 : Nat) : Int) - 1 = (j : Int) by omega]
            have hj3 : j = 0 ∨ j = 1 ∨ j = 2 ∨ j = 3 := by omega
            rcases hj3 with rfl | rfl | rfl | rfl
            all_goals
              simp only [Nat.reducePow, Nat.div_one] at e
              have HE := Lib.hid e
              clear e
              go_wp2_with (at_builtin; refine wpList_append_own _ rfl _ _ 149 rfl w.heap.size 5 i0 (.int .u8 0) 1 1 Tryz.underlying149 hi hz0 hz1 hz2 rfl (by decide) _ _ _ rfl (hb3.alloc _) ⟨wr.heap.size, 0, none⟩ 1 1 [_] rfl rfl (one_cell _ _ _) (one_one _ rfl) (by unfold maxLen; omega) (by omega) (by simp; omega) ?_; intro v' w1 hown' hgrow _; clear hb3)
              all_goals first
                | (have hB2 := Below.grown (hB.alloc hsz3 _) hgrow (by simp; omega) (fun q hq => (World.ownsRow.lt HB2.out q hq).1)
                   first | exact ⟨⟨0, _, by omega, rfl, u8s_app hown' (by omega) (Nat.mod_lt _ (by decide)), text_rel_app HEE.out HE.out (by omega), hB2⟩, by simp [intOf]⟩ | exact ⟨⟨1, _, by omega, rfl, u8s_app hown' (by omega) (Nat.mod_lt _ (by decide)), text_rel_app HEE.out HE.out (by omega), hB2⟩, by simp [intOf]⟩ | exact ⟨⟨2, _, by omega, rfl, u8s_app hown' (by omega) (Nat.mod_lt _ (by decide)), text_rel_app HEE.out HE.out (by omega), hB2⟩, by simp [intOf]⟩ | exact ⟨⟨3, _, by omega, rfl, u8s_app hown' (by omega) (Nat.mod_lt _ (by decide)), text_rel_app HEE.out HE.out (by omega), hB2⟩, by simp [intOf]⟩)
                | exact ⟨⟨0, _, by omega, rfl, HB2.out, text_rel_skip HEE.out HE.out (by omega) (by omega), hB⟩, by simp [intOf]⟩
                | exact ⟨⟨1, _, by omega, rfl, HB2.out, text_rel_skip HEE.out HE.out (by omega) (by omega), hB⟩, by simp [intOf]⟩
                | exact ⟨⟨2, _, by omega, rfl, HB2.out, text_rel_skip HEE.out HE.out (by omega) (by omega), hB⟩, by simp [intOf]⟩
                | exact ⟨⟨3, _, by omega, rfl, HB2.out, text_rel_skip HEE.out HE.out (by omega) (by omega), hB⟩, by simp [intOf]⟩
end Go.Proofs.YteggbpaljmopoaaGreat
/- Walks of naturals: compare. -/
namespace Go.Proofs.YteggbpaljmopoaaGreat
open Go.RowKit BF

set_option maxHeartbeats 400000 in
theorem compare_eq (n : Nat) (ca cb : Nat) (ba oa bb ob : Nat) (xs ys : List Nat) (w : World) (hn : n ≤ 1000000) (hlx : xs.length = n) (hly : ys.length = n)
   (hx : ∀ j, j < n → w.cell? ⟨ba, oa + j, none⟩ = some (.int .u64 (xs.getD j 0)))
   (hy : ∀ j, j < n → w.cell? ⟨bb, ob + j, none⟩ = some (.int .u64 (ys.getD j 0))) :
    Calls Tryz.prog 95 #[.slice (some ⟨ba, oa, none⟩) n ca, .slice (some ⟨bb, ob, none⟩) n cb] w fun e w' => e = .returned (.int .i64 (cmpTo xs ys n)) ∧ ∃ m, w' = w.drewN m := by
  have HX : Hid _ := hx
  have HY : Hid _ := hy
  clear hlx hly hx hy
  go_enter Tryz.func95, Tryz.ntmps95
  go_wp2; go_step3; go_wp2; go_step3; go_wp2
  go_loopw [5, 6] (fun r i wr => ∃ k : Nat, k ≤ n ∧ i = .int .i64 ((k : Int) - 1) ∧ r = .int .i64 0 ∧ cmpTo xs ys n = cmpTo xs ys k ∧ ∃ m, wr = w.drewN m) (fun _ i _ => (intOf i + 1).toNat)
  case atStart => exact ⟨n, Nat.le_refl _, by simp, rfl, rfl, 0, rfl⟩
  case round =>
    obtain ⟨k, hk, rfl, rfl, hc, m, rfl⟩ := hrel
    have HC := Lib.hid hc
    clear hc
    cases k with
    | zero => 
      go_wp2
      rw [Exit.noGoto_normal]
      go_wp2
      go_ret
      exact ⟨by rw [HC.out]; rfl, m, rfl⟩
    | succ k =>
      have hx := HX.out k (by omega)
      have hy := HY.out k (by omega)
      have HS : Hid (cmpTo xs ys (k+1) = if xs.getD k 0 < ys.getD k 0 then -1 else if xs.getD k 0 > ys.getD k 0 then 1 else cmpTo xs ys k) := rfl
      generalize xs.getD k 0 = x at *
      generalize ys.getD k 0 = y at *
      rw [show ((k+1 : Nat) : Int) - 1 = (k : Int) by omega]
      rcases Nat.lt_trichotomy x y with h | h | h
      · have h' : (x : Int) < y := by omega
        go_wp2
        go_quiet (fail)
        go_wp2
        rw [Exit.noGoto_normal]
        go_wp2
        go_ret
        exact ⟨by rw [HC.out, HS.out, if_pos h]; rfl, _, rfl⟩
      · subst h
        go_wp2
        go_quiet (fail)
        go_wp2
        go_quiet (fail)
        go_wp2
        go_roundw
        case rel => exact ⟨k, by omega, rfl, rfl, by rw [HC.out, HS.out, if_neg (by omega), if_neg (by omega)], _, rfl⟩
        case measure => simp [intOf]
      · have h' : (y : Int) < x := by omega
        have h'' : ¬ x < y := by omega
        go_wp2
        go_quiet (fail)
        go_wp2
        go_quiet (fail)
        go_wp2
        rw [Exit.noGoto_normal]
        go_wp2
        go_ret
        exact ⟨by rw [HC.out, HS.out, if_neg h'', if_pos h]; rfl, _, rfl⟩

def ComparePost (w : World) (r : Int) (e : Ending) (w' : World) : Prop := e = .returned (.int .i64 r) ∧ ∃ m, w' = w.drewN m

set_option maxHeartbeats 400000 in
theorem compare_any (ba bb : Nat) (v u : Value) (xs ys : List Nat) (w : World) (hv : u64s w ba v xs) (hu : u64s w bb u ys) (hx : canon xs) (hy : canon ys) (hn : xs.length ≤ 1000) (hm : ys.length ≤ 1000) :
    Calls Tryz.prog 95 #[v, u] w (ComparePost w (cmpNat (valw xs) (valw ys))) := by
  by_cases hl : xs.length = ys.length
  · rcases u64s_cases hv with ⟨rfl, rfl⟩ | ⟨g, cap, rfl, h1, h2, h3, h4, h5, h6⟩
    · obtain rfl : ys = [] := List.length_eq_zero_iff.1 (by simpa using hl.symm)
      obtain ⟨ua, uc, rfl⟩ := u64s_form hu
      have HL := Lib.hid hl
      clear hl hv hu hx hy
      go_enter Tryz.func95, Tryz.ntmps95
      go_wp2
      go_step3; go_wp2
      go_step3; go_wp2
      go_loop [5, 6] (fun r i => r = .int .i64 0 ∧ i = .int .i64 (-1)) (fun _ _ => 0)
      case atStart => exact ⟨rfl, rfl⟩
      case round =>
        obtain ⟨rfl, rfl⟩ := hrel
        go_wp2
        go_ret
        exact ⟨by simp [cmpNat, valw], 0, rfl⟩
    · rcases u64s_cases hu with ⟨rfl, rfl⟩ | ⟨g', cap', rfl, k1, k2, k3, k4, k5, k6⟩
      · obtain rfl : xs = [] := List.length_eq_zero_iff.1 (by simpa using hl)
        clear hl hv hu hx hy h5 h6
        go_enter Tryz.func95, Tryz.ntmps95
        go_wp2
        go_step3; go_wp2
        go_step3; go_wp2
        go_loop [5, 6] (fun r i => r = .int .i64 0 ∧ i = .int .i64 (-1)) (fun _ _ => 0)
        case atStart => exact ⟨rfl, rfl⟩
        case round =>
          obtain ⟨rfl, rfl⟩ := hrel
          go_wp2
          go_ret
          exact ⟨by simp [cmpNat, valw], 0, rfl⟩
      · have h := compare_eq xs.length cap cap' g 0 g' 0 xs ys w (by omega) rfl hl.symm (fun j hj => by rw [Nat.zero_add]; exact h5 j hj) (fun j hj => by rw [Nat.zero_add]; exact k5 j (by omega))
        rw [cmpTo_all xs ys hx.1 hy.1 hl] at h
        rw [← hl]
        exact h
  · have hc := cmp_len hx hy hl
    have HC := Lib.hid hc
    obtain ⟨va, vc, rfl⟩ := u64s_form hv
    obtain ⟨ua, uc, rfl⟩ := u64s_form hu
    clear hv hu hx hy hc
    generalize xs.length = n at *
    generalize ys.length = m at *
    have hnz : ((n : Int) - m == 0) = false := by simp; omega
    go_enter Tryz.func95, Tryz.ntmps95
    by_cases hlt : n < m
    · have h1 : (n : Int) < m := by omega
      go_wp2
      go_ret
      exact ⟨by rw [HC.out, if_pos hlt]; rfl, 0, rfl⟩
    · have h1 : (m : Int) < n := by omega
      go_wp2
      go_ret
      exact ⟨by rw [HC.out, if_neg hlt]; rfl, 0, rfl⟩
end Go.Proofs.YteggbpaljmopoaaGreat
/- Walks of naturals: less. -/
namespace Go.Proofs.YteggbpaljmopoaaGreat
open Go.RowKit BF

set_option maxRecDepth 100000 in
set_option maxHeartbeats 1000000 in
theorem less_any (base : Nat) (v u : Value) (xs ys : List Nat) (w : World) (hv : u64s w base v xs) (hu : u64s w 0 u ys) (hne : ∀ k, v.ownBlock = some k → u.ownBlock ≠ some k)
    (hx : digs xs) (hy : digs ys) (hl : ys.length ≤ xs.length) (hle : valw ys ≤ valw xs) (hn : xs.length ≤ 1000) :
    Calls Tryz.prog 96 #[v, u] w fun e w' => (∃ v' zs, e = .returned v' ∧ u64s w' base v' zs ∧ canon zs ∧ valw zs = valw xs - valw ys) ∧ w.grownBy w' v.ownBlock := by
  have HV := Lib.hid hv
  have HU := Lib.hid hu
  have HX := Lib.hid hx
  have HY := Lib.hid hy
  have HN := Lib.hid hne
  have HLE := Lib.hid hle
  clear hx hy hne hle
  rcases u64s_cases hv with ⟨rfl, rfl⟩ | ⟨g, cap, rfl, h1, h2, h3, h4, h5, h6⟩
  · clear hv hu
    obtain rfl : ys = [] := List.length_eq_zero_iff.1 (by simpa using hl)
    clear hl hn
    go_enter Tryz.func96, Tryz.ntmps96
    go_wp2
    go_loop [5, 10] (fun b i => b = .int .u64 0 ∧ i = .int .i64 0) (fun _ _ => 0)
    case atStart => exact ⟨rfl, rfl⟩
    case round =>
      obtain ⟨rfl, rfl⟩ := hrel
      go_wp2_with (go_at_call 97; refine (trim_any base (.slice none 0 0) [] _ HV.out).mono ?_; rintro e w' ⟨⟨v', rfl, hv'⟩, rfl⟩)
      go_ret
      exact ⟨⟨_, _, rfl, hv', trimL_canon (fun d hd => by simp at hd), by rw [trimL_val]; simp [valw]⟩, grownBy_refl _ _⟩
  · have HR : Hid (row64 w base g xs.length cap xs) := hv
    clear hv hu h5 h6
    generalize hnn : xs.length = n at *
    have HNN := Lib.hid hnn
    clear hnn
    obtain ⟨ua, uc, rfl, hun⟩ : ∃ a c, u = .slice a ys.length c ∧ ∀ wr, w.grownBy wr (some g) → ∀ j, j < ys.length → ∃ gb, a = some ⟨gb, 0, none⟩ ∧ wr.cell? ⟨gb, j, none⟩ = some (.int .u64 ((ys.getD j 0 : Nat) : Int)) := by
      rcases u64s_cases HU.out with ⟨rfl, rfl⟩ | ⟨gb, capb, rfl, b1, b2, b3, b4, b5, b6⟩
      · exact ⟨_, _, rfl, fun _ _ j hj => by simp at hj⟩
      · refine ⟨_, _, rfl, fun wr hg j hj => ⟨gb, rfl, ?_⟩⟩
        exact hg.cell (b5 j hj) (by have := HN.out g rfl; simpa [Value.ownBlock] using this)
    have HUN := Lib.hid hun
    clear hun
    generalize hm : ys.length = m at *
    have HM := Lib.hid hm
    clear hm
    go_enter Tryz.func96, Tryz.ntmps96
    go_wp2
    go_loopw [5, 10] (fun b i wr => ∃ (k bo : Nat) (zs : List Nat), k ≤ n ∧ bo ≤ 1 ∧ b = .int .u64 (bo : Int) ∧ i = .int .i64 (k : Int) ∧ Hid (row64 wr base g n cap zs) ∧ Hid (LessRel xs ys zs k bo) ∧ Hid (w.grownBy wr (some g))) (fun _ i _ => n - (intOf i).toNat)
    case atStart => exact ⟨0, 0, xs, Nat.zero_le _, by omega, rfl, rfl, HR, less_start _ _, grownBy_refl _ _⟩
    case round =>
      obtain ⟨k, bo, zs, hk, hbo, rfl, rfl, HZ, HL, HG⟩ := hrel
      have hsz := HG.out.size
      have hlt := row64_lt HZ.out
      by_cases hkn : k < n
      · have hc := row64_cell HZ.out k hkn
        have hf := row64_frozen HZ.out k
        rw [less_getD HL.out] at hc
        have hxb := digs_getD HX.out k
        have hyb := digs_getD HY.out k
        have hstep := @less_step xs ys zs k bo HL.out (by rw [HNN.out]; exact hkn) HX.out HY.out
        have HS := Lib.hid hstep
        clear hstep
        unfold B at hxb hyb
        by_cases hkm : k < m
        · obtain ⟨gb, rfl, hb⟩ := HUN.out wr HG.out k hkm
          generalize xs.getD k 0 = x at *
          generalize ys.getD k 0 = y at *
          by_cases hlt2 : x < bo + y
          · have hlt3 : (x : Int) < bo + y := by omega
            go_wp2
            have R1 := row64_set HZ.out k ((x : Int) + 4294967296) (x + 4294967296) (by omega)
            have R2 := row64_set R1.1 k ((x : Int) + 4294967296 - (bo + y)) (x + 4294967296 - (bo + y)) (by omega)
            go_roundw
            case rel => exact ⟨k + 1, 1, _, by omega, by omega, rfl, by go_num, R2.1, by rw [List.set_set]; exact HS.out 1 (by omega) _ (by unfold B; omega) (by unfold B; omega), grownBy_trans HG.out (grownBy_trans R1.2 R2.2)⟩
            case measure => simp [intOf]; omega
          · have hlt3 : ¬ (x : Int) < bo + y := by omega
            go_wp2
            have R2 := row64_set HZ.out k ((x : Int) - (bo + y)) (x - (bo + y)) (by omega)
            go_roundw
            case rel => exact ⟨k + 1, 0, _, by omega, by omega, rfl, by go_num, R2.1, HS.out 0 (by omega) _ (by unfold B; omega) (by omega), grownBy_trans HG.out R2.2⟩
            case measure => simp [intOf]; omega
        · have hy0 : ys.getD k 0 = 0 := by
            have := HM.out
            simp [List.getD, List.getElem?_eq_none (show ys.length ≤ k by omega)]
          rw [hy0] at HS
          clear hyb hy0
          generalize xs.getD k 0 = x at *
          by_cases hlt2 : x < bo
          · have hlt3 : (x : Int) < bo := by omega
            go_wp2
            have R1 := row64_set HZ.out k ((x : Int) + 4294967296) (x + 4294967296) (by omega)
            have R2 := row64_set R1.1 k ((x : Int) + 4294967296 - bo) (x + 4294967296 - bo) (by omega)
            go_roundw
            case rel => exact ⟨k + 1, 1, _, by omega, by omega, rfl, by go_num, R2.1, by rw [List.set_set]; exact HS.out 1 (by omega) _ (by unfold B; omega) (by unfold B; omega), grownBy_trans HG.out (grownBy_trans R1.2 R2.2)⟩
            case measure => simp [intOf]; omega
          · have hlt3 : ¬ (x : Int) < bo := by omega
            go_wp2
            have R2 := row64_set HZ.out k ((x : Int) - bo) (x - bo) (by omega)
            go_roundw
            case rel => exact ⟨k + 1, 0, _, by omega, by omega, rfl, by go_num, R2.1, HS.out 0 (by omega) _ (by unfold B; omega) (by omega), grownBy_trans HG.out R2.2⟩
            case measure => simp [intOf]; omega
      · obtain rfl : k = n := by omega
        have hE := less_end (by rw [HNN.out]; exact HL.out) (by rw [HNN.out, HM.out]; exact hl) HLE.out
        have HE := Lib.hid hE
        clear hE
        go_wp2_with (go_at_call 97; refine (trim_any base _ zs _ (row64_to HZ.out)).mono ?_; rintro e w' ⟨⟨v', rfl, hv'⟩, rfl⟩)
        go_ret
        exact ⟨⟨_, _, rfl, hv', trimL_canon HE.out.1, by rw [trimL_val]; exact HE.out.2⟩, HG.out⟩
end Go.Proofs.YteggbpaljmopoaaGreat
/- Walks of naturals: double. -/
namespace Go.Proofs.YteggbpaljmopoaaGreat
open Go.RowKit BF

theorem info64 : (Tryz.prog.info? 141).map (fun i => (i.zero, i.size, i.bytes)) = some (some (.int .u64 0), 1, 8) := by kernel_rfl

def DoublePost (w : World) (base : Nat) (v : Value) (xs : List Nat) (b0 : Nat) (e : Ending) (w' : World) : Prop :=
  (∃ v' zs, e = .returned v' ∧ u64s w' base v' zs ∧ canon zs ∧ valw zs = 2 * valw xs + b0 ∧ zs.length ≤ xs.length + 1) ∧ w.grownBy w' v.ownBlock

set_option maxRecDepth 100000 in
set_option maxHeartbeats 1000000 in
theorem double_any (base : Nat) (v : Value) (xs : List Nat) (b0 : Nat) (w : World) (hv : u64s w base v xs) (hbase : base ≤ w.heap.size)
    (hx : canon xs) (hb0 : b0 ≤ 1) (hn : xs.length ≤ 1000) :
    Calls Tryz.prog 94 #[v, .int .u64 (b0 : Int)] w (DoublePost w base v xs b0) := by
  obtain ⟨i0, hi, hz0, hz1, hz2⟩ := info_parts info64
  have HV := Lib.hid hv
  have HX := Lib.hid hx
  clear hx
  rcases u64s_cases hv with ⟨rfl, rfl⟩ | ⟨g, cap, rfl, h1, h2, h3, h4, h5, h6⟩
  · clear hv
    have hr3 := World.ownsRow_nil w base 141 1
    go_enter Tryz.func94, Tryz.ntmps94
    go_wp2
    go_loop [1, 8] (fun b i => b = .int .u64 (b0 : Int) ∧ i = .int .i64 0) (fun _ _ => 0)
    case atStart => exact ⟨rfl, rfl⟩
    case round =>
      obtain ⟨rfl, rfl⟩ := hrel
      by_cases hbo0 : b0 = 0
      · subst hbo0
        go_wp2
        go_ret
        exact ⟨⟨_, _, rfl, HV.out, HX.out, by simp [valw], by simp⟩, grownBy_refl _ _⟩
      · obtain rfl : b0 = 1 := by omega
        go_wp2_with (at_builtin; refine wpList_append_own _ rfl _ _ 98 rfl base 141 i0 (.int .u64 0) 1 8 Tryz.underlying98 hi hz0 hz1 hz2 rfl (by decide) _ _ _ rfl (hr3.alloc _) ⟨w.heap.size, 0, none⟩ 1 1 [_] rfl rfl (one_cell _ _ _) (one_one _ rfl) (by unfold maxLen; omega) (by omega) (by simp; omega) ?_; intro v' w1 hown' hgrow _; clear hr3)
        go_ret
        have hc : canon [1] := ⟨fun d hd => by simp at hd; subst hd; decide, by simp⟩
        exact ⟨⟨_, _, rfl, u64s_app (zs := []) 1 hown' rfl, hc, by simp [valw], by simp⟩, grownBy_trans (World.grownBy_alloc _ _ _) hgrow⟩
  · have HR : Hid (row64 w base g xs.length cap xs) := hv
    clear hv h5 h6
    generalize hnn : xs.length = n at *
    have HNN := Lib.hid hnn
    clear hnn
    go_enter Tryz.func94, Tryz.ntmps94
    go_wp2
    go_loopw [1, 8] (fun b i wr => ∃ (k bo : Nat) (zs : List Nat), k ≤ n ∧ bo ≤ 1 ∧ b = .int .u64 (bo : Int) ∧ i = .int .i64 (k : Int) ∧ Hid (row64 wr base g n cap zs) ∧ Hid (DoubleRel xs zs b0 k bo) ∧ Hid (w.grownBy wr (some g))) (fun _ i _ => n - (intOf i).toNat)
    case atStart => exact ⟨0, b0, xs, Nat.zero_le _, hb0, rfl, rfl, HR, double_start _ _ hb0, grownBy_refl _ _⟩
    case round =>
      obtain ⟨k, bo, zs, hk, hbo, rfl, rfl, HZ, HL, HG⟩ := hrel
      have hsz := HG.out.size
      have hlt := row64_lt HZ.out
      by_cases hkn : k < n
      · have hc := row64_cell HZ.out k hkn
        have hf := row64_frozen HZ.out k
        rw [double_getD HL.out] at hc
        have hxb := digs_getD HX.out.1 k
        have hstep := @double_step xs zs b0 k bo HL.out (by rw [HNN.out]; exact hkn) HX.out.1
        have HS := Lib.hid hstep
        clear hstep
        unfold B at hxb
        generalize xs.getD k 0 = x at *
        have ho := or_bit64 x bo hxb hbo
        have hm := mask32i ((x : Int) * 2 + bo) (by omega) (by omega)
        go_wp2
        have R1 := row64_set HZ.out k ((x : Int) * 2 + bo) (2 * x + bo) (by omega)
        have R2 := row64_set R1.1 k (((x : Int) * 2 + bo) % 4294967296) ((2 * x + bo) % B) (by unfold B; omega)
        go_roundw
        case rel => exact ⟨k + 1, (2 * x + bo) / B, _, by omega, by unfold B; omega, by unfold B; go_num, by go_num, R2.1, by rw [List.set_set]; exact HS.out, grownBy_trans HG.out (grownBy_trans R1.2 R2.2)⟩
        case measure => simp [intOf]; omega
      · obtain rfl : k = n := by omega
        have hD : Hid (DoubleRel xs zs b0 xs.length bo) := by rw [HNN.out]; exact HL
        have hne : xs ≠ [] ∨ xs = [] := by by_cases h : xs = [] <;> simp [h]
        have hb := row64_to HZ.out
        have hzl := row64_len HZ.out
        have HZL := Lib.hid hzl
        have HB := Lib.hid hb
        clear hzl hb
        by_cases hbo0 : bo = 0
        · subst hbo0
          go_wp2
          go_ret
          rcases hne with hne | hne
          · have := double_canon0 hD.out HX.out hb0 hne
            exact ⟨⟨_, _, rfl, HB.out, this.1, this.2, by rw [HZL.out, HNN.out]; omega⟩, HG.out⟩
          · have he := double_end hD.out
            have hz : zs = [] := List.length_eq_zero_iff.1 (by rw [hD.out.1, hne]; rfl)
            refine ⟨⟨_, _, rfl, HB.out, ⟨he.1, by rw [hz]; simp⟩, by omega, by rw [HZL.out, HNN.out]; omega⟩, HG.out⟩
        · obtain rfl : bo = 1 := by omega
          have hr3 : World.ownsRow wr base 141 1 (.slice (some ⟨g, 0, none⟩) k cap) k (zs.map U64) := HZ.out
          go_wp2_with (at_builtin; refine wpList_append_own _ rfl _ _ 98 rfl base 141 i0 (.int .u64 0) 1 8 Tryz.underlying98 hi hz0 hz1 hz2 rfl (by decide) _ _ _ rfl (hr3.alloc _) ⟨wr.heap.size, 0, none⟩ 1 1 [_] rfl rfl (one_cell _ _ _) (one_one _ rfl) (by unfold maxLen; omega) (by omega) (by simp; omega) ?_; intro v' w1 hown' hgrow _; clear hr3)
          go_ret
          have hc := double_canon1 hD.out
          exact ⟨⟨_, _, rfl, u64s_app 1 hown' rfl, hc.1, hc.2, by simp [HZL.out, HNN.out]⟩, grownBy_trans HG.out (grownBy_trans (World.grownBy_alloc _ _ _) hgrow)⟩
end Go.Proofs.YteggbpaljmopoaaGreat
/- Walks of naturals: words. -/
namespace Go.Proofs.YteggbpaljmopoaaGreat
open Go.RowKit BF

theorem madeU64 (n : Nat) : (madeCells (Value.int .u64 0).cells (n * 1)).toList = (List.replicate n 0).map U64 := by
  rw [show (Value.int .u64 0).cells = #[Value.int .u64 0] from rfl, Nat.mul_one, toList_madeCells_one]
  simp [U64]

def WordsPost (w : World) (base : Nat) (s : ByteArray) (e : Ending) (w' : World) : Prop :=
  (∃ v' zs, e = .returned v' ∧ u64s w' base v' zs ∧ WordsRel s.data.toList zs s.size) ∧ Below w.heap.size w w'

def WordsPost2 (w : World) (base : Nat) (s : ByteArray) (e : Ending) (w' : World) : Prop :=
  (∃ g cap zs, e = .returned (.slice (some ⟨g, 0, none⟩) zs.length cap) ∧ u64s w' base (.slice (some ⟨g, 0, none⟩) zs.length cap) zs ∧ WordsRel s.data.toList zs s.size) ∧ Below w.heap.size w w'

set_option maxRecDepth 100000 in
set_option maxHeartbeats 1000000 in
theorem words_some (base : Nat) (s : ByteArray) (w : World) (hbase : base ≤ w.heap.size) (hs : s.size ≤ 1000) :
    Calls Tryz.prog 58 #[.string s] w (WordsPost2 w base s) := by
  obtain ⟨i0, hi, hz0, hz1, hz2⟩ := info_parts info64
  have HSS : Hid (s.data.toList.length = s.size) := rfl
  obtain ⟨m, hm⟩ : ∃ m, m = (s.size + 3) / 4 := ⟨_, rfl⟩
  have hmi : ((s.size : Int) + 4 - 1) / 4 = (m : Int) := by omega
  have HM := Lib.hid hm
  have HMI := Lib.hid hmi
  clear hm hmi
  go_enter Tryz.func58, Tryz.ntmps58
  go_wp2_with (at_make; refine wpList_make_full _ rfl _ _ 98 rfl base 141 i0 (.int .u64 0) 1 Tryz.underlying98 hi hz0 hz1 .i64 .i64 _ _ m rfl rfl HMI.out HMI.out (by have := HM.out; rw [hz2]; omega) (by have := HM.out; unfold maxLen; omega) hbase ?_; intro w1 hown1 hgrow1)
  have hsz1 := hgrow1.size
  rw [madeU64] at hown1
  have HO : Hid (row64 w1 base w.heap.size m m (List.replicate m 0)) := hown1
  have HB1 := Lib.hid (grownBy_below hgrow1 (Nat.le_refl _) (fun k hk => by cases hk))
  have hlt1 := (row64_lt HO.out).2
  clear hown1 hgrow1
  have HGG := Lib.hid (Eq.refl w.heap.size)
  generalize hgg : w.heap.size = g at *
  have HG := Lib.hid hgg
  clear hgg
  go_loopw [14] (fun i wr => ∃ (k : Nat) (zs : List Nat), k ≤ s.size ∧ i = .int .i64 (k : Int) ∧ Hid (row64 wr base g m m zs) ∧ Hid (WordsRel s.data.toList zs k) ∧ Hid (Below g w wr)) (fun i _ => s.size - (intOf i).toNat)
  case atStart => exact ⟨0, _, Nat.zero_le _, rfl, HO, by rw [HM.out]; exact words_start s.data.toList, HB1⟩
  case round =>
    obtain ⟨k, zs, hk, rfl, HZ, HL, HB⟩ := hrel
    have hlt := row64_lt HZ.out
    have hB0 : g ≤ wr.heap.size := by omega
    by_cases hkn : k < s.size
    · obtain ⟨p, hp⟩ : ∃ p, p = s.size - 1 - k := ⟨_, rfl⟩
      obtain ⟨q, hq⟩ : ∃ q, q = p / 4 := ⟨_, rfl⟩
      have hpe : (s.size : Int) - 1 - (k : Int) = (p : Int) := by omega
      have hqe : (p : Int) / 4 = (q : Int) := by omega
      have HM1 := HM.out
      have hqm : q < m := by omega
      have hc := row64_cell HZ.out q hqm
      have hf := row64_frozen HZ.out q
      have hlow := words_low HL.out hkn
      have hdb := digs_getD HL.out.2.1 q
      have hbb := (s[k]).toNat_lt
      have hstep := words_step HL.out hkn s[k] (by rw [List.getElem?_eq_getElem hkn]; rfl)
      rw [HSS.out, ← hp, ← hq] at hlow hstep
      have HS := Lib.hid hstep
      have HLOW := Lib.hid hlow
      unfold B at hdb
      clear hstep hlow hp hq HM1
      generalize zs.getD q 0 = d at *
      obtain ⟨b, hb⟩ : ∃ b, b = s[k].toNat := ⟨_, rfl⟩
      have hj : p % 4 = 0 ∨ p % 4 = 1 ∨ p % 4 = 2 ∨ p % 4 = 3 := by omega
      rcases hj with hj | hj | hj | hj
      · have hj' : (p : Int) % 4 = 0 := by omega
        rw [hj] at HS HLOW
        have hor := or_byte64 d s[k].toNat 0 HLOW.out hbb hdb (by omega) ((s[k].toNat : Int)) (by simp)
        clear hj hb
        go_wp2
        go_region
        go_wp2
        have R := row64_set HZ.out q ((d : Int) + (s[k].toNat : Int)) (d + s[k].toNat * 2 ^ (8 * 0)) (by simp)
        go_roundw
        case rel => exact ⟨k + 1, _, by omega, by go_num, R.1, HS.out, (HB.out.grown R.2 hB0 (fun j hj => by cases hj; exact Nat.le_refl _)).drew⟩
        case measure => simp [intOf]; omega
      · have hj' : (p : Int) % 4 = 1 := by omega
        rw [hj] at HS HLOW
        have hor := or_byte64 d s[k].toNat 8 HLOW.out hbb hdb (by omega) ((s[k].toNat : Int) * 256) (by simp)
        clear hj hb
        go_wp2
        go_region
        go_wp2
        have R := row64_set HZ.out q ((d : Int) + (s[k].toNat : Int) * 256) (d + s[k].toNat * 2 ^ (8 * 1)) (by simp)
        go_roundw
        case rel => exact ⟨k + 1, _, by omega, by go_num, R.1, HS.out, (HB.out.grown R.2 hB0 (fun j hj => by cases hj; exact Nat.le_refl _)).drew⟩
        case measure => simp [intOf]; omega
      · have hj' : (p : Int) % 4 = 2 := by omega
        rw [hj] at HS HLOW
        have hor := or_byte64 d s[k].toNat 16 HLOW.out hbb hdb (by omega) ((s[k].toNat : Int) * 65536) (by simp)
        clear hj hb
        go_wp2
        go_region
        go_wp2
        have R := row64_set HZ.out q ((d : Int) + (s[k].toNat : Int) * 65536) (d + s[k].toNat * 2 ^ (8 * 2)) (by simp)
        go_roundw
        case rel => exact ⟨k + 1, _, by omega, by go_num, R.1, HS.out, (HB.out.grown R.2 hB0 (fun j hj => by cases hj; exact Nat.le_refl _)).drew⟩
        case measure => simp [intOf]; omega
      · have hj' : (p : Int) % 4 = 3 := by omega
        rw [hj] at HS HLOW
        have hor := or_byte64 d s[k].toNat 24 HLOW.out hbb hdb (by omega) ((s[k].toNat : Int) * 16777216) (by simp)
        clear hj hb
        go_wp2
        go_region
        go_wp2
        have R := row64_set HZ.out q ((d : Int) + (s[k].toNat : Int) * 16777216) (d + s[k].toNat * 2 ^ (8 * 3)) (by simp)
        go_roundw
        case rel => exact ⟨k + 1, _, by omega, by go_num, R.1, HS.out, (HB.out.grown R.2 hB0 (fun j hj => by cases hj; exact Nat.le_refl _)).drew⟩
        case measure => simp [intOf]; omega
    · obtain rfl : k = s.size := by omega
      go_wp2
      go_ret
      have hl := row64_len HZ.out
      exact ⟨⟨g, m, zs, by rw [hl]; rfl, by rw [hl]; exact row64_to HZ.out, HL.out⟩, by rw [HG.out]; exact HB.out⟩
theorem words_any (base : Nat) (s : ByteArray) (w : World) (hbase : base ≤ w.heap.size) (hs : s.size ≤ 1000) :
    Calls Tryz.prog 58 #[.string s] w (WordsPost w base s) :=
  (words_some base s w hbase hs).mono fun _ _ ⟨⟨_, _, zs, h1, h2, h3⟩, h4⟩ => ⟨⟨_, zs, h1, h2, h3⟩, h4⟩
end Go.Proofs.YteggbpaljmopoaaGreat
