/- The package naturals: what its other functions return. Conditions: those that each theorem states. -/
import Derived.Test.YteggbpaljmopoaaGreatNatsA
import Derived.RangeFuncBox
import Derived.RangeFuncNested
import Derived.RangeFuncBound
import Derived.RangeFuncCalls
import Derived.RangeFuncLeaves
import Derived.Shelf.Abstract
import Derived.Shelf.RegionOpen
import Derived.OwnWalkIn
import Derived.TacticsInMore
import Derived.LoopNIn
import Derived.LoopIn
import Derived.IntWalk
set_option linter.unusedVariables false
set_option linter.unusedSimpArgs false
/- Walks of naturals: the bits of a number, and division. -/
namespace Go.Proofs.YteggbpaljmopoaaGreat
open Go.RowKit BF Go.Shelf
attribute [local go_sem] Oper.semAt_some

/-- two blocks lie as they lay -/
def keep2 (g Bs : Nat) (W W' : World) : Prop := W'.heap[g]? = W.heap[g]? ∧ W'.heap[Bs]? = W.heap[Bs]?

/-- a place and a bit -/
abbrev PB (N : Nat) := { x : Nat × Nat // x.1 < N ∧ x.2 ≤ 1 }

def encPB {N : Nat} (x : PB N) : Array Value := #[.int .i64 (x.1.1 : Int), .int .u64 (x.1.2 : Int)]

/-- the bits that have come after k rounds -/
def bitsTo (A N : Nat) : Nat → List (PB N)
  | 0 => []
  | k + 1 => bitsTo A N k ++ (if h : N - 1 - k < N then [⟨(N - 1 - k, A / 2 ^ (N - 1 - k) % 2), h, by simp; omega⟩] else [])

theorem bitsTo_length (A N k : Nat) (hk : k ≤ N) : (bitsTo A N k).length = k := by
  induction k with
  | zero => rfl
  | succ k ih => rw [bitsTo, dif_pos (by omega), List.length_append, ih (by omega)]; rfl

set_option maxRecDepth 100000 in
set_option maxHeartbeats 2000000 in
theorem bits1_in (n : Nat) (hn : 1 ≤ n) (l Bs g m cap base : Nat) (zs : List Nat) (hm : m ≤ 1000) (J Jx : List (PB (32 * m)) → World → Prop)
    (hY : ∀ pre x W, J pre W → pre.length < 32 * m → YieldAt Fence.wide (n - 1) Tryz.prog l (encPB x) W fun e W' =>
      (e = .returned (.bool true) ∧ J (pre ++ [x]) W' ∧ keep2 g Bs W W') ∨ (e = .returned (.bool false) ∧ Jx (pre ++ [x]) W'))
    (W : World) (hBs : W.cell? ⟨Bs, 0, none⟩ = some (.slice (some ⟨g, 0, none⟩) m cap)) (hz : row64 W base g m cap zs) (hd : digs zs) (h0 : J [] W) :
    CallsIn Fence.wide n Tryz.prog 136 #[.func (.yield l) #[] #[], .pointer (some ⟨Bs, 0, none⟩)] W fun e W' => (∃ v, e = .returned v) ∧
      ((∃ ys, ys = bitsTo (valw zs) (32 * m) (32 * m) ∧ J ys W') ∨ (∃ pre : List (PB (32 * m)), True ∧ Jx pre W')) := by
  have HZ : Hid (row64 W base g m cap zs) := hz
  have HD := Lib.hid hd
  clear hz hd
  refine callsIn_of_wp Tryz.func136 rfl trivial ?_ rfl
  simp only [Tryz.ntmps136, List.size_toArray, List.length_cons, List.length_nil, Nat.reduceAdd, Nat.reduceSub, Array.replicate_succ, Array.replicate_zero, List.push_toArray, List.append_toArray, List.nil_append, List.cons_append]
  gi_wp2
  gi_loopw [3] (fun i wr => ∃ k : Nat, k ≤ 32 * m ∧ i = .int .i64 (((32 * m - k : Nat) : Int) - 1) ∧ Hid (J (bitsTo (valw zs) (32 * m) k) wr) ∧ Hid (keep2 g Bs W wr))
    (fun i _ => (intOf i + 1).toNat)
  case atStart => exact ⟨0, Nat.zero_le _, by congr 1, h0, rfl, rfl⟩
  case round =>
    obtain ⟨k, hk, rfl, HJ, HB⟩ := hrel
    have hbs2 := (World.cell?_of_block (a := ⟨Bs, 0, none⟩) HB.out.2).trans hBs
    by_cases hlt : k < 32 * m
    · obtain ⟨p, hp⟩ : ∃ p, p = 32 * m - 1 - k := ⟨_, rfl⟩
      obtain ⟨q, hq⟩ : ∃ q, q = p / 32 := ⟨_, rfl⟩
      obtain ⟨j, hj⟩ : ∃ j, j = p % 32 := ⟨_, rfl⟩
      obtain ⟨b, hbb⟩ : ∃ b, b = valw zs / 2 ^ p % 2 := ⟨_, rfl⟩
      have hb2 : b ≤ 1 := by omega
      have hcz := (World.cell?_of_block (a := ⟨g, q, none⟩) HB.out.1).trans (row64_cell HZ.out q (by omega))
      have hbit := bit_of_digit zs HD.out p
      rw [← hbb, ← hq, ← hj] at hbit
      have hdb := digs_getD HD.out q
      unfold B at hdb
      have hpi : (((32 * m - k : Nat) : Int) - 1) = (p : Int) := by omega
      rw [hpi]
      have hqi : (p : Int) / 32 = (q : Int) := by omega
      have hji : (p : Int) % 32 = (j : Int) := by omega
      have hpm : p < 32 * m := by omega
      have hqm : q < m := by omega
      have hjm : j < 32 := by omega
      have HP := Lib.hid hp
      have HBB := Lib.hid hbb
      have HBIT := Lib.hid hbit
      clear hp hq hj hbb hbit hpi
      generalize zs.getD q 0 = d at *
      have hand := and_one64 d j b hdb HBIT.out
      obtain ⟨fn, tmps, assign, body, hy, hR⟩ := hY _ ⟨(p, b), hpm, hb2⟩ wr HJ.out (by rw [bitsTo_length _ _ _ hk]; exact hlt)
      dsimp only [encPB] at hy
      gi_wp2
      refine hR.mono ?_
      have hstep : ∀ W', J (bitsTo (valw zs) (32 * m) k ++ [⟨(p, b), hpm, hb2⟩]) W' → J (bitsTo (valw zs) (32 * m) (k + 1)) W' := by
        intro W' h
        have e : (⟨(p, b), hpm, hb2⟩ : PB (32 * m)) = ⟨(32 * m - 1 - k, valw zs / 2 ^ (32 * m - 1 - k) % 2), by omega, by simp; omega⟩ := by
          apply Subtype.ext
          simp only [HP.out, HBB.out]
        rw [e] at h
        rw [bitsTo, dif_pos (by omega)]
        exact h
      have HST := Lib.hid hstep
      clear hstep
      rintro e W3 (⟨rfl, hJ3, hk3⟩ | ⟨rfl, hJx3⟩)
      · have HJ3 := Lib.hid hJ3
        have HK3 := Lib.hid hk3
        clear hJ3 hk3
        gi_wp2
        go_roundw
        case rel => exact ⟨k + 1, by omega, by have := HP.out; congr 1; omega, HST.out _ HJ3.out, HK3.out.1.trans HB.out.1, HK3.out.2.trans HB.out.2⟩
        case measure => simp [intOf]
      · have HJX := Lib.hid hJx3
        clear hJx3
        gi_wp2
        refine bodyPost_ret (results_none rfl _ _ _) rfl ?_
        exact ⟨⟨_, rfl⟩, .inr ⟨_, trivial, HJX.out⟩⟩
    · obtain rfl : k = 32 * m := by omega
      have e0 : (((32 * m - 32 * m : Nat) : Int) - 1) = -1 := by omega
      rw [e0]
      clear e0
      gi_wp2
      go_end0
      exact ⟨⟨_, rfl⟩, .inl ⟨_, rfl, HJ.out⟩⟩

theorem bits_any (a : Option Addr) (len cap : Nat) (w : World) :
    Calls Tryz.prog 93 #[.slice a len cap] w fun e w' => e = .returned (.func (.func 136) #[] #[.pointer (some ⟨w.heap.size, 0, none⟩)]) ∧ w' = w.alloc (.cells #[.slice a len cap] 98) := by
  go_enter Tryz.func93, Tryz.ntmps93
  go_wp2
  go_ret
  exact ⟨rfl, rfl⟩

/-- 'make([]T, n)' inside a fence, n a variable: n zero elements are owned -/
theorem wpListIn_make_full {F : Fence} {nf : Nat} {P : Program} (w : World) {ops : Array Oper} {rest : List Oper} {o : Oper} {a : Act} {Q : Exit → Act → World → Prop}
    (hg : o.guard = none) (l c : Operand) (t : TypeId) (hop : o.op = Op.makeSlice t l c)
    (base : Nat) (e : TypeId) (i : TypeInfo) (z : Value) (size : Nat) (h1 : P.underlying t = some (.slice e)) (h2 : P.info? e = some i) (h3 : i.zero = some z) (h4 : i.size = size)
    (kl kc : IntKind) (L C : Int) (n : Nat) (hl : a.eval l = .int kl L) (hc : a.eval c = .int kc C) (hL : L = (n : Int)) (hC : C = (n : Int)) (b2 : i.bytes * n ≤ 281474976710656) (b3 : n ≤ maxLen) (b4 : base ≤ w.heap.size)
    (hK : ∀ w', w'.ownsRow base e size (.slice (some ⟨w.heap.size, 0, none⟩) n n) n (madeCells z.cells (n * size)).toList → w.grownBy w' none → wpListIn F nf P ops Q rest (a.put o.dst (.slice (some ⟨w.heap.size, 0, none⟩) n n)) w') :
    wpListIn F nf P ops Q (o :: rest) a w := by
  refine wpListIn_plain hg fun K hK' => ?_
  obtain ⟨w', hrun, r1, r2⟩ := run_make_full (P := P) w base t e i z size h1 h2 h3 h4 kl kc n b2 b3 b4
  subst hL
  subst hC
  unfold Oper.wpIn
  refine ⟨?_, ?_⟩
  · simp [Oper.about, hop]
  · rw [Oper.semAt_plain F _ _ (by rw [hop]; intro c hc'; cases hc')]
    simp [execOp, hop, hl, hc, hrun, Result.andThen]
    exact hK' _ _ (hK w' r1 r2)

/-- no operation of a region defers a call -/
def noDefer (ops : Array Oper) : Bool := ops.toList.all fun o => match o.op with | .defer _ => false | _ => true

theorem noDefer_at {ops : Array Oper} (h : noDefer ops = true) {i : Nat} {o : Oper} (ho : ops[i]? = some o) : ∀ c, o.op ≠ .defer c := by
  intro c e
  have hm : o ∈ ops.toList := by
    rw [← Array.getElem?_toList] at ho
    exact List.mem_of_getElem? ho
  have := List.all_eq_true.1 h o hm
  rw [e] at this
  cases this

theorem wpOpIn_round {F : Fence} {n : Nat} {P : Program} {ops : Array Oper} {Q : Exit → Act → World → Prop} {i : Nat} {K : Act → World → Prop} {a : Act} {w : World} (l : Nat) (hro : F.round = none) (hno : noDefer ops = true)
    (h : wpOpIn F n P ops Q i K a w) : wpOpIn (F.inRound l) n P ops Q i K a w := by
  unfold wpOpIn at h ⊢
  cases ho : ops[i]? with
  | none => rw [ho] at h; exact h
  | some o =>
    rw [ho] at h
    simp only at h ⊢
    split
    · rename_i hw
      rw [if_pos hw] at h
      refine ⟨h.1, ?_⟩
      have h2 := h.2
      rw [hro, Oper.semAt_none] at h2
      show o.uponIn (F.inRound l) n P a K Q ((o.semAt (some l) a.eval).run P w)
      rw [Oper.semAt_some l _ _ (noDefer_at hno ho)]
      exact h2
    · rename_i hw
      rw [if_neg hw] at h
      exact h

theorem wpAnyIn_round {F : Fence} {n : Nat} {P : Program} {md : Region.Mode} {ops : Array Oper} {Q : Exit → Act → World → Prop} (l : Nat) (hro : F.round = none) (hno : noDefer ops = true) :
    ∀ (fuel : Nat) (listed : Array Bool) (a : Act) (w : World), wpAnyIn F n P md ops Q fuel listed a w → wpAnyIn (F.inRound l) n P md ops Q fuel listed a w := by
  intro fuel
  induction fuel with
  | zero => intro listed a w h; exact h
  | succ fuel ih =>
    intro listed a w h
    refine ⟨h.1, fun i hi => ?_⟩
    refine wpOpIn_round l hro hno ?_
    have := h.2 i hi
    unfold wpOpIn at this ⊢
    cases ho : ops[i]? with
    | none => rw [ho] at this; exact ih _ _ _ this
    | some o =>
      rw [ho] at this
      simp only at this ⊢
      split
      · rename_i hw
        rw [if_pos hw] at this
        exact Oper.wpIn_mono (fun a w h => ih _ a w h) this
      · rename_i hw
        rw [if_neg hw] at this
        exact ⟨this.1, ih _ _ _ this.2⟩

/-- a region that draws its order, in a round: by the orders as they are outside of one -/
theorem wpIn_region_round {F : Fence} {n : Nat} {P : Program} {ops : Array Oper} {Q : Exit → Act → World → Prop} {id : Nat} {a : Act} {w : World} (l : Nat) (hro : F.round = none) (hno : noDefer ops = true) (hm : P.follows .mixedOrders = true)
    (h : wpAnyIn F n P .any ops Q ops.size (Array.replicate ops.size false) a w.drew) : (Code.region id ops true).wpIn (F.inRound l) n P Q a w :=
  wpIn_region_any hm (wpAnyIn_round l hro hno _ _ _ _ h)

theorem bitsTo_map (A N k : Nat) (hk : k ≤ N) : (bitsTo A N k).map (fun x : PB N => x.1) = pairsTo A N k := by
  induction k with
  | zero => rfl
  | succ k ih => rw [bitsTo, dif_pos (by omega), List.map_append, ih (by omega)]; rfl
end Go.Proofs.YteggbpaljmopoaaGreat
/- Walks of naturals: divide. -/
namespace Go.Proofs.YteggbpaljmopoaaGreat
open Go.RowKit BF Go.Shelf
attribute [local go_sem] Oper.semAt_some

def DividePost (w : World) (xs ys : List Nat) (e : Ending) (w' : World) : Prop :=
  (∃ vq vr qs rs, e = .returned (.tuple #[vq, vr]) ∧ u64s w' w.heap.size vq qs ∧ canon qs ∧ valw qs = valw xs / valw ys ∧ u64s w' w.heap.size vr rs ∧ canon rs ∧ valw rs = valw xs % valw ys) ∧ Below w.heap.size w w'

/-- what the loop of a division keeps -/
structure DivI (w : World) (bb bq br gq nb m D : Nat) (bv : Value) (pre : List (PB (32 * m))) (W : World) : Prop where
  below : Below w.heap.size w W
  boxb : Boxed W bb 98 bv
  boxq : Boxed W bq 98 (.slice (some ⟨gq, 0, none⟩) m m)
  rowq : row64 W w.heap.size gq m m (divTo D m (pre.map (·.1))).2
  r : ∃ rv rs, Boxed W br 98 rv ∧ u64s W nb rv rs ∧ canon rs ∧ valw rs = (divTo D m (pre.map (·.1))).1
  size : nb ≤ W.heap.size

theorem div_setup {w w1 : World} {m : Nat} {bv : Value}
    (hown1 : w1.ownsRow w.heap.size 141 1 (.slice (some ⟨(((w.alloc (.cells #[bv] 98)).alloc (.cells #[.slice none 0 0] 98)).alloc (.cells #[.slice none 0 0] 98)).heap.size, 0, none⟩) m m) m (madeCells (Value.int .u64 0).cells (m * 1)).toList)
    (hgrow1 : (((w.alloc (.cells #[bv] 98)).alloc (.cells #[.slice none 0 0] 98)).alloc (.cells #[.slice none 0 0] 98)).grownBy w1 none) :
    Boxed w1 w.heap.size 98 bv ∧ Boxed w1 (w.heap.size + 1) 98 (.slice none 0 0) ∧ Boxed w1 (w.heap.size + 1 + 1) 98 (.slice none 0 0) ∧
    row64 w1 w.heap.size (w.heap.size + 1 + 1 + 1) m m (List.replicate m 0) ∧ Below w.heap.size w w1 := by
  rw [madeU64] at hown1
  refine ⟨(((Boxed.new w _ _).alloc _).alloc _).kept hgrow1 (by simp), ?_, ?_, ?_, ((((Below.refl _ w).alloc (Nat.le_refl _) _).alloc (by simp) _).alloc (by simp; omega) _).grown hgrow1 (by simp; omega) (fun k h => by cases h)⟩
  · have := Boxed.new (w.alloc (.cells #[bv] 98)) 98 (.slice none 0 0)
    rw [World.size_alloc] at this
    exact (this.alloc _).kept hgrow1 (by simp)
  · have := Boxed.new ((w.alloc (.cells #[bv] 98)).alloc (.cells #[.slice none 0 0] 98)) 98 (.slice none 0 0)
    rw [World.size_alloc, World.size_alloc] at this
    exact this.kept hgrow1 (by simp)
  · simp only [World.size_alloc] at hown1
    exact hown1

theorem ne_of_cells {W : World} {row : Option Nat} {b B' : Nat} {c : Array Value} {t : TypeId} {f : Nat × Nat} (h : W.heap[b]? = some (.cells c t f))
    (hr : ∀ r, row = some r → B' ≤ r ∧ ∃ o : Obj, W.heap[r]? = some o ∧ o.isCells = false) : some b ≠ row := by
  intro e
  obtain ⟨_, o, ho, hc⟩ := hr b e.symm
  rw [h] at ho
  cases ho
  cases hc

theorem row_kept {W W' : World} {row : Option Nat} {B' base k : Nat} {v : Value} {e : TypeId} {xs : List Value} (h : W.ownsRow base e 1 v k xs) (hg : W.grownBy W' row)
    (hr : ∀ r, row = some r → B' ≤ r ∧ ∃ o : Obj, W.heap[r]? = some o ∧ o.isCells = false) : W'.ownsRow base e 1 v k xs := by
  have h0 := h
  obtain ⟨_, h | ⟨g, cap, cur, rfl, h1, h2, h3⟩⟩ := h
  · refine h0.kept hg (.inl ?_)
    rw [h.1]; rfl
  · exact h0.kept hg (.inr (ne_of_cells h2 hr))

theorem divI_own {w : World} {bb bq br gq nb m D : Nat} {bv : Value} {B' : Nat} (hB : w.heap.size ≤ B') : OwnFrom B' (DivI w bb bq br gq nb m D bv) := by
  intro s W W' row hs hg hr
  obtain ⟨rv, rs, r1, r2, r3, r4⟩ := hs.r
  exact ⟨hs.below.grown hg hs.below.size (fun k e => Nat.le_trans hB (hr k e).1), hs.boxb.kept hg (ne_of_cells hs.boxb hr), hs.boxq.kept hg (ne_of_cells hs.boxq hr), row_kept hs.rowq hg hr,
    ⟨rv, rs, r1.kept hg (ne_of_cells r1 hr), row_kept r2 hg hr, r3, r4⟩, Nat.le_trans hs.size hg.size⟩

theorem map_snoc {N : Nat} (pre : List (PB N)) (x : PB N) : (pre ++ [x]).map (·.1) = pre.map (·.1) ++ [x.1] := by simp

/-- a step of the loop's body -/
def DStep (n₀ g Bs : Nat) (W W' : World) : Prop := KeepsOthers W W' ∧ keep2 g Bs W W' ∧ Below n₀ W W'

theorem DStep.refl (n₀ g Bs : Nat) (W : World) : DStep n₀ g Bs W W := ⟨KeepsOthers.refl W, ⟨rfl, rfl⟩, Below.refl _ _⟩
theorem DStep.trans {n₀ g Bs : Nat} {A B C : World} (h : DStep n₀ g Bs A B) (k : DStep n₀ g Bs B C) : DStep n₀ g Bs A C :=
  ⟨h.1.trans k.1, ⟨k.2.1.1.trans h.2.1.1, k.2.1.2.trans h.2.1.2⟩, h.2.2.trans k.2.2⟩
theorem DStep.row {n₀ g Bs base : Nat} {W W' : World} {v : Value} {xs : List Nat} (h : u64s W base v xs) (hg : W.grownBy W' v.ownBlock) (h1 : n₀ ≤ base) (h2 : g < base) (h3 : Bs < base) (h4 : g < W.heap.size) (h5 : Bs < W.heap.size) (h6 : n₀ ≤ W.heap.size) : DStep n₀ g Bs W W' := by
  have hl := u64s_lt h
  refine ⟨KeepsOthers.of_grownBy hg ?_, ⟨hg.block g h4 (fun e => ?_), hg.block Bs h5 (fun e => ?_)⟩, grownBy_below hg h6 (fun k hk => Nat.le_trans h1 (hl k hk).1)⟩
  · intro j o hj ho
    obtain ⟨_, ⟨rfl, _⟩ | ⟨g', cap, cur, rfl, _, h7, _⟩⟩ := h
    · cases hj
    · cases hj
      rw [h7] at ho
      cases ho
      rfl
  · have := (hl g e.symm).1; omega
  · have := (hl Bs e.symm).1; omega
theorem DStep.box {n₀ g Bs : Nat} (W : World) (b o : Nat) (v : Value) (h1 : n₀ ≤ b) (h2 : b ≠ g) (h3 : b ≠ Bs) : DStep n₀ g Bs W (W.setCell ⟨b, o, none⟩ v) :=
  ⟨KeepsOthers.setCell _ _ _, ⟨Below.heap_setCell _ _ _ _ (Ne.symm h2), Below.heap_setCell _ _ _ _ (Ne.symm h3)⟩, (Below.refl _ _).setCell h1 _⟩
theorem DStep.drewN {n₀ g Bs : Nat} (W : World) (k : Nat) : DStep n₀ g Bs W (W.drewN k) := ⟨⟨Nat.le_refl _, fun _ _ h _ => h⟩, ⟨rfl, rfl⟩, below_drewN (Below.refl _ _) k⟩
theorem DStep.drew {n₀ g Bs : Nat} (W : World) : DStep n₀ g Bs W W.drew := ⟨⟨Nat.le_refl _, fun _ _ h _ => h⟩, ⟨rfl, rfl⟩, (Below.refl _ _).drew⟩

/-- the boxes of a division, its quotient's digits, and a value with the remainder's -/
structure DivB (n₀ bb bq br gq nb m : Nat) (bv : Value) (W : World) (qs : List Nat) (rb v : Value) (zs : List Nat) : Prop where
  boxb : Boxed W bb 98 bv
  boxq : Boxed W bq 98 (.slice (some ⟨gq, 0, none⟩) m m)
  rowq : row64 W n₀ gq m m qs
  boxr : Boxed W br 98 rb
  cur : u64s W nb v zs
  size : nb ≤ W.heap.size

theorem DivB.row {n₀ bb bq br gq nb m : Nat} {bv : Value} {W W' : World} {qs : List Nat} {rb v v' : Value} {zs zs' : List Nat} (h : DivB n₀ bb bq br gq nb m bv W qs rb v zs) (hg : W.grownBy W' v.ownBlock) (hc : u64s W' nb v' zs')
    (hq : gq < nb) : DivB n₀ bb bq br gq nb m bv W' qs rb v' zs' := by
  have hl := u64s_lt h.cur
  exact ⟨h.boxb.kept hg (h.boxb.not_row (by decide) h.cur), h.boxq.kept hg (h.boxq.not_row (by decide) h.cur), World.ownsRow.kept h.rowq hg (.inr (fun e => by have := (hl gq e.symm).1; omega)),
    h.boxr.kept hg (h.boxr.not_row (by decide) h.cur), hc, Nat.le_trans h.size hg.size⟩

theorem DivB.store {n₀ bb bq br gq nb m : Nat} {bv : Value} {W : World} {qs : List Nat} {rb v : Value} {zs : List Nat} (h : DivB n₀ bb bq br gq nb m bv W qs rb v zs) (h1 : bb ≠ br) (h2 : bq ≠ br) (h3 : gq ≠ br) (h4 : br < nb) :
    DivB n₀ bb bq br gq nb m bv (W.setCell ⟨br, 0, none⟩ v) qs v v zs :=
  ⟨h.boxb.kept (grownBy_setCell' _ _ _) (by simp; omega), h.boxq.kept (grownBy_setCell' _ _ _) (by simp; omega), World.ownsRow.kept h.rowq (grownBy_setCell' _ _ _) (.inr (by simp [Value.ownBlock]; omega)), h.boxr.set _,
    u64s_grown h.cur (grownBy_setCell' _ _ _) (by
      cases e : v.ownBlock with
      | none => exact .inl rfl
      | some k => exact .inr (by have := (u64s_lt h.cur k e).1; simp; omega)), by rw [World.size_setCell]; exact h.size⟩

theorem DivB.drewN {n₀ bb bq br gq nb m : Nat} {bv : Value} {W : World} {qs : List Nat} {rb v : Value} {zs : List Nat} (h : DivB n₀ bb bq br gq nb m bv W qs rb v zs) (k : Nat) : DivB n₀ bb bq br gq nb m bv (W.drewN k) qs rb v zs :=
  ⟨h.boxb, h.boxq, h.rowq, h.boxr, h.cur, h.size⟩

theorem DivB.putq {n₀ bb bq br gq nb m : Nat} {bv : Value} {W : World} {qs : List Nat} {rb v : Value} {zs : List Nat} (h : DivB n₀ bb bq br gq nb m bv W qs rb v zs) (j : Nat) (x : Int) (d : Nat) (hx : x = (d : Int)) (hq : gq < nb) :
    DivB n₀ bb bq br gq nb m bv (W.setCell ⟨gq, j, none⟩ (.int .u64 x)) (qs.set j d) rb v zs := by
  obtain ⟨r1, r2⟩ := row64_set h.rowq j x d hx
  have hn : ∀ {b : Nat} {u : Value}, Boxed W b 98 u → some b ≠ some gq := fun hb => hb.not_row (by decide) h.rowq
  exact ⟨h.boxb.kept r2 (hn h.boxb), h.boxq.kept r2 (hn h.boxq), r1, h.boxr.kept r2 (hn h.boxr), u64s_grown h.cur r2 (by
      cases e : v.ownBlock with
      | none => exact .inl rfl
      | some k => exact .inr (by have := (u64s_lt h.cur k e).1; simp; omega)), by rw [World.size_setCell]; exact h.size⟩

/-- the world behind a division, its result's boxes filled and the loop's block taken -/
theorem div_end_world {w W W2 : World} {bq br D : Nat} {tv rv : Value} {xs ys qs rs : List Nat} {T0 : Value} {T1 : Value}
    (hW2 : W2 = (W.setCell ⟨bq, 0, none⟩ tv).setCell ⟨br, 0, none⟩ rv) (hq : Boxed W bq 98 T0) (hr : Boxed W br 98 T1) (hne : bq ≠ br) (hbq : w.heap.size ≤ bq) (hbr : w.heap.size ≤ br)
    (hD : W.heap[D]? = some (.deferred (some []))) (hDs : w.heap.size ≤ D) (hB : Below w.heap.size w W)
    (ht : u64s W w.heap.size tv qs) (hr2 : u64s W w.heap.size rv rs) (hbr3 : ∀ k, tv.ownBlock = some k → k ≠ bq ∧ k ≠ br) (hbr4 : ∀ k, rv.ownBlock = some k → k ≠ bq ∧ k ≠ br)
    (hcq : canon qs) (hvq : valw qs = valw xs / valw ys) (hcr : canon rs) (hvr : valw rs = valw xs % valw ys) :
    W2.heap[D]? = some (.deferred (some [])) ∧ (W2.putObj D (.deferred none)).cell? ⟨bq, 0, none⟩ = some tv ∧ (W2.putObj D (.deferred none)).cell? ⟨br, 0, none⟩ = some rv ∧
    DividePost w xs ys (.returned (.tuple #[tv, rv])) (W2.putObj D (.deferred none)) := by
  subst hW2
  have hK2 : ((W.setCell ⟨bq, 0, none⟩ tv).setCell ⟨br, 0, none⟩ rv).heap[D]? = some (.deferred (some [])) :=
    ((KeepsOthers.setCell W ⟨bq, 0, none⟩ tv).trans (KeepsOthers.setCell _ ⟨br, 0, none⟩ rv)).same D _ hD rfl
  have b1 : Boxed ((W.setCell ⟨bq, 0, none⟩ tv).setCell ⟨br, 0, none⟩ rv) bq 98 tv := (hq.set tv).kept (grownBy_setCell' _ _ _) (by simpa using hne)
  have b2 : Boxed ((W.setCell ⟨bq, 0, none⟩ tv).setCell ⟨br, 0, none⟩ rv) br 98 rv := (hr.kept (grownBy_setCell' _ _ _) (by simp; omega)).set rv
  have hput := grownBy_putObj' ((W.setCell ⟨bq, 0, none⟩ tv).setCell ⟨br, 0, none⟩ rv) D (.deferred none)
  have hrow : ∀ r, some D = some r → ∃ o : Obj, ((W.setCell ⟨bq, 0, none⟩ tv).setCell ⟨br, 0, none⟩ rv).heap[r]? = some o ∧ o.isCells = false := fun r e => by cases e; exact ⟨_, hK2, rfl⟩
  have keep : ∀ {v : Value} {zs : List Nat}, u64s W w.heap.size v zs → (∀ k, v.ownBlock = some k → k ≠ bq ∧ k ≠ br) → u64s (((W.setCell ⟨bq, 0, none⟩ tv).setCell ⟨br, 0, none⟩ rv).putObj D (.deferred none)) w.heap.size v zs := by
    intro v zs hv hn
    refine row_kept (B' := 0) (u64s_grown (u64s_grown hv (grownBy_setCell' _ bq _) ?_) (grownBy_setCell' _ br _) ?_) hput (fun r e => ⟨Nat.zero_le _, hrow r e⟩)
    · cases e : v.ownBlock with
      | none => exact .inl rfl
      | some k => exact .inr (by have := (hn k e).1; simpa using this)
    · cases e : v.ownBlock with
      | none => exact .inl rfl
      | some k => exact .inr (by have := (hn k e).2; simpa using this)
  refine ⟨hK2, cell_kept b1.cell hput hrow, cell_kept b2.cell hput hrow, ⟨tv, rv, qs, rs, rfl, keep ht hbr3, hcq, hvq, keep hr2 hbr4, hcr, hvr⟩, ?_⟩
  exact ((hB.setCell hbq _).setCell hbr _).grown hput (by rw [World.size_setCell, World.size_setCell]; exact hB.size) (fun k e => by cases e; exact hDs)

set_option maxRecDepth 100000 in
set_option maxHeartbeats 2000000 in
theorem divide_some (xs ys : List Nat) (w : World) (g cap : Nat) (u : Value) (hv : u64s w 0 (.slice (some ⟨g, 0, none⟩) xs.length cap) xs) (hu : u64s w 0 u ys)
    (hx : digs xs) (hy : canon ys) (hyn : ys ≠ []) (hm : xs.length ≤ 200) (hn : ys.length ≤ 200) :
    Calls Tryz.prog 59 #[.slice (some ⟨g, 0, none⟩) xs.length cap, u] w (DividePost w xs ys) := by
  obtain ⟨i0, hi, hz0, hz1, hz2⟩ := info_parts info64
  have HV : Hid (row64 w 0 g xs.length cap xs) := hv
  have HU := Lib.hid hu
  have HX := Lib.hid hx
  have HY := Lib.hid hy
  have HD := Lib.hid (canon_pos ys hy hyn)
  clear hx hy hyn hv hu
  obtain ⟨ua, uc, rfl⟩ := u64s_form HU.out
  generalize hml : xs.length = m at *
  have HM := Lib.hid hml
  clear hml
  refine (callsIn_wide (n := 6)).1 ?_
  refine callsIn_of_wp_marks Tryz.func59 rfl trivial ?_ rfl
  simp only [Tryz.ntmps59, List.size_toArray, List.length_cons, List.length_nil, Nat.reduceAdd, Nat.reduceSub, Array.replicate_succ, Array.replicate_zero, List.push_toArray, List.append_toArray, List.nil_append, List.cons_append]
  gi_wp2_with (first
    | (gi_at_make; refine wpListIn_make_full _ rfl _ _ 98 rfl w.heap.size 141 i0 (.int .u64 0) 1 Tryz.underlying98 hi hz0 hz1 .i64 .i64 _ _ m rfl rfl rfl rfl (by rw [hz2]; omega) (by unfold maxLen; omega) (by simp; omega) ?_; intro w1 hown1 hgrow1; obtain ⟨hb1, hb2, hb3, hq, hB⟩ := div_setup hown1 hgrow1; clear hown1 hgrow1; have hc2 := hb2.cell; have hf2 := hb2.frozen; have HB1 := Lib.hid hb1; have HB2 := Lib.hid hb2; have HB3 := Lib.hid hb3; have HQ := Lib.hid hq; have HB := Lib.hid hB; have hsz1 := (row64_lt hq).2; clear hb1 hb2 hb3 hq hB)
    | (refine ⟨trivial, ?_⟩; gi_at_call 93; refine (callsIn_wide.2 (bits_any _ _ _ _)).mono ?_; rintro e w' ⟨rfl, rfl⟩))
  obtain ⟨W0, hW0⟩ : ∃ W0, (w1.setCell ⟨w.heap.size + 1, 0, none⟩ (.slice (some ⟨w.heap.size + 1 + 1 + 1, 0, none⟩) m m)).alloc (.cells #[.slice (some ⟨g, 0, none⟩) m cap] 98) = W0 := ⟨_, rfl⟩
  have hs0 : W0.heap.size = w1.heap.size + 1 := by rw [← hW0]; simp
  have A1 : Boxed W0 w.heap.size 98 (.slice ua ys.length uc) := by rw [← hW0]; exact (HB1.out.kept (grownBy_setCell' _ _ _) (by simp; try omega)).alloc _
  have A2 : Boxed W0 (w.heap.size + 1) 98 (.slice (some ⟨w.heap.size + 1 + 1 + 1, 0, none⟩) m m) := by rw [← hW0]; exact (HB2.out.set _).alloc _
  have A3 : Boxed W0 (w.heap.size + 1 + 1) 98 (.slice none 0 0) := by rw [← hW0]; exact (HB3.out.kept (grownBy_setCell' _ _ _) (by simp; try omega)).alloc _
  have A4 : row64 W0 w.heap.size (w.heap.size + 1 + 1 + 1) m m (List.replicate m 0) := by
    rw [← hW0]; exact World.ownsRow.alloc (World.ownsRow.kept HQ.out (grownBy_setCell' _ _ _) (.inr (by simp [Value.ownBlock]; omega))) _
  have A5 : Below w.heap.size w W0 := by rw [← hW0]; exact (HB.out.setCell (by simp) _).alloc (by have := HB.out.size; simp; omega) _
  have A6 : Boxed W0 w1.heap.size 98 (.slice (some ⟨g, 0, none⟩) m cap) := by
    rw [← hW0]
    have := Boxed.new (w1.setCell ⟨w.heap.size + 1, 0, none⟩ (.slice (some ⟨w.heap.size + 1 + 1 + 1, 0, none⟩) m m)) 98 (.slice (some ⟨g, 0, none⟩) m cap)
    rwa [show (w1.setCell ⟨w.heap.size + 1, 0, none⟩ (.slice (some ⟨w.heap.size + 1 + 1 + 1, 0, none⟩) m m)).heap.size = w1.heap.size by simp] at this
  have hgw := (row64_lt HV.out).2
  have A7 : row64 W0 0 g m cap xs := u64s_below (row64_to HV.out) A5 (fun k hk => by cases hk; exact hgw) |> fun h => by
    have e := HM.out
    subst e
    exact h
  have hsw := A5.size
  clear HB1 HB2 HB3 HQ HB hc2 hf2
  rw [hW0]
  clear hW0
  have HA7 := Lib.hid A7
  have HA6 := Lib.hid A6
  have HI : Hid (DivI w w.heap.size (w.heap.size + 1) (w.heap.size + 1 + 1) (w.heap.size + 1 + 1 + 1) W0.heap.size m (valw ys) (.slice ua ys.length uc) [] W0) :=
    ⟨A5, A1, A2, A4, ⟨_, [], A3, World.ownsRow_nil _ _ _ _, ⟨fun d hd => by simp at hd, by simp⟩, rfl⟩, Nat.le_refl _⟩
  clear A1 A2 A3 A4 A5 A6 A7
  refine wpIn_rangeFunc_ownF rfl (by omega) (gf := 136) (lb := #[.pointer (some ⟨w1.heap.size, 0, none⟩)]) rfl trivial (enters_of Tryz.func136 (by kernel_rfl) rfl)
    (encs := encPB (N := 32 * m)) (Kp := keep2 g w1.heap.size) (S := fun ys => ys = bitsTo (valw xs) (32 * m) (32 * m)) (Sp := fun _ => True) (N := 32 * m) (w0 := W0)
    (fun l J Jx W hW hJ hJx hY h0 => ?seq) (fun h1 h2 => ⟨h2.1.trans h1.1, h2.2.trans h1.2⟩) ?kb (Below.refl _ _) (fun _ => rfl)
    (DivI w w.heap.size (w.heap.size + 1) (w.heap.size + 1 + 1) (w.heap.size + 1 + 1 + 1) W0.heap.size m (valw ys) (.slice ua ys.length uc)) (fun _ _ _ => False) (divI_own hsw) (fun _ _ _ _ _ hs _ _ => hs) HI.out
    (fun x => { tmps := #[.slice (some ⟨g, 0, none⟩) m cap, .slice ua ys.length uc, undef, .pointer (some ⟨w.heap.size, 0, none⟩), .pointer (some ⟨w.heap.size + 1, 0, none⟩), .pointer (some ⟨w.heap.size + 1 + 1, 0, none⟩),
      .int .i64 (x.1.1 : Int), .int .u64 (x.1.2 : Int), .slice (some ⟨g, 0, none⟩) m cap, .int .i64 m, .slice (some ⟨w.heap.size + 1 + 1 + 1, 0, none⟩) m m, .slice (some ⟨g, 0, none⟩) m cap,
      .func (.func 136) #[] #[.pointer (some ⟨w1.heap.size, 0, none⟩)], .int .i64 (x.1.1 : Int), .int .u64 (x.1.2 : Int), undef, undef, undef, undef, undef, undef, undef, undef, undef, undef, undef, undef, undef, undef, undef, undef, undef, undef, undef, undef, undef, undef, undef], defers := [] }) ?assign ?body ?done ?stop
  case seq =>
    have hbs := (hW.cell (p := ⟨w1.heap.size, 0, none⟩) (by simp; omega)).trans HA6.out.cell
    have hz : row64 W 0 g m cap xs := by
      have := u64s_below (row64_to HA7.out) hW (fun k hk => by cases hk; show g < W0.heap.size; omega)
      have e := HM.out
      subst e
      exact this
    exact bits1_in 5 (by omega) l w1.heap.size g m cap 0 xs (by omega) J Jx hY W hbs hz HX.out h0
  case kb =>
    intro W l o o' hl hlo _ _
    exact ⟨World.putObj_heap_other (by omega), World.putObj_heap_other (by omega)⟩
  case assign =>
    intro l x W K hK
    simp only [encPB]
    gi_wp2
    exact hK
  case body =>
    rintro l pre ⟨⟨at', bit⟩, hat, hbit⟩ W hI hlen
    have hDP := (HD.out : 0 < valw ys)
    have hfit := divTo_fits (valw ys) m hDP (pre.map (·.1)) (fun x hx => by
      obtain ⟨y, _, rfl⟩ := List.mem_map.1 hx
      exact y.2.2)
    obtain ⟨hbelow, hboxb, hboxq, hrowq, ⟨rv, rs, hr1, hr2, hr3, hr4⟩, hsize⟩ := hI
    obtain ⟨ra, rc, rfl⟩ := u64s_form hr2
    have hrl : rs.length ≤ 200 := Nat.le_trans (canon_len_le hr3 HY.out.1 (by rw [hr4]; exact Nat.le_of_lt hfit.1)) hn
    have hsw2 := hbelow.size
    have HR3 := Lib.hid hr3
    have HR4 := Lib.hid hr4
    have HFIT := Lib.hid hfit
    have HBW := Lib.hid hbelow
    have HDB : Hid (DivB w.heap.size w.heap.size (w.heap.size + 1) (w.heap.size + 1 + 1) (w.heap.size + 1 + 1 + 1) W0.heap.size m (.slice ua ys.length uc) W (divTo (valw ys) m (pre.map (·.1))).2 (.slice ra rs.length rc) (.slice ra rs.length rc) rs) :=
      ⟨hboxb, hboxq, hrowq, hr1, hr2, hsize⟩
    have hUin : ∀ W', Below w.heap.size W W' → u64s W' 0 (.slice ua ys.length uc) ys := fun W' hb => u64s_below HU.out (HBW.out.trans hb) (fun k hk => (u64s_lt HU.out k hk).2)
    have HUI := Lib.hid hUin
    clear hr3 hr4 hfit hboxb hboxq hrowq hbelow hDP hr1 hr2 hUin
    have HMAP := Lib.hid (map_snoc pre ⟨(at', bit), hat, hbit⟩)
    generalize hst : divTo (valw ys) m (pre.map (·.1)) = st at *
    have HST := Lib.hid hst
    clear hst
    obtain ⟨r, qs⟩ := st
    dsimp only at *
    have hcr := HDB.out.boxr.cell
    have hfr := HDB.out.boxr.frozen
    gi_wp2_with (fail)
    refine ⟨trivial, ?_⟩
    refine (CallsIn.inRound l (callsIn_wide.2 (double_any W0.heap.size _ rs bit W HDB.out.cur HDB.out.size HR3.out hbit (by omega)))).mono ?_
    rintro e w2 ⟨⟨v2, zs, rfl, z1, z2, z3, z4⟩, hg2⟩
    obtain ⟨za, zc, rfl⟩ := u64s_form z1
    have S2 : Hid (DStep w.heap.size g w1.heap.size W w2) := DStep.row HDB.out.cur hg2 hsw (by omega) (by omega) (by have := HDB.out.size; omega) (by have := HDB.out.size; omega) hsw2
    have D2 := Lib.hid (HDB.out.row hg2 z1 (by omega))
    have Z2 := Lib.hid z2
    have Z3 := Lib.hid z3
    clear z1 z2 z3 hg2 hcr hfr HDB
    have S3 : Hid (DStep w.heap.size g w1.heap.size W (w2.setCell ⟨w.heap.size + 1 + 1, 0, none⟩ (.slice za zs.length zc))) := S2.out.trans (DStep.box _ _ _ _ (by omega) (by omega) (by omega))
    have D3 := Lib.hid (D2.out.store (by omega) (by omega) (by omega) (by omega))
    have hcr := D2.out.boxr.cell
    have hfr := D2.out.boxr.frozen
    have hcr2 := D3.out.boxr.cell
    have hcb2 := D3.out.boxb.cell
    have hzl : zs.length ≤ 300 := by omega
    obtain ⟨c, hcm⟩ : ∃ c, c = cmpNat (valw zs) (valw ys) := ⟨_, rfl⟩
    have hCMP := compare_any W0.heap.size 0 _ _ zs ys _ D3.out.cur (HUI.out _ S3.out.2.2) Z2.out HY.out (by omega) (by omega)
    rw [← hcm] at hCMP
    have HC := Lib.hid hCMP
    clear hCMP
    have HCM := Lib.hid hcm
    clear hcm
    by_cases hge : valw ys ≤ valw zs
    · have h0 : 0 ≤ c := by
        have := HCM.out
        unfold cmpNat at this
        rw [this, if_neg (by omega)]; split <;> decide
      have HGE := Lib.hid hge
      clear hge
      gi_wp2_with (fail)
      refine ⟨trivial, ?_⟩
      refine (CallsIn.inRound l (callsIn_wide.2 HC.out)).mono ?_
      rintro e w4 ⟨rfl, k4, rfl⟩
      have D4 := Lib.hid (D3.out.drewN k4)
      have S4 : Hid (DStep w.heap.size g w1.heap.size W ((w2.setCell ⟨w.heap.size + 1 + 1, 0, none⟩ (.slice za zs.length zc)).drewN k4)) := S3.out.trans (DStep.drewN _ _)
      clear hcr hfr hcr2 hcb2
      have hcr := D4.out.boxr.cell
      have hfr := D4.out.boxr.frozen
      have hcb := D4.out.boxb.cell
      gi_wp2_with (fail)
      refine ⟨trivial, ?_⟩
      refine (CallsIn.inRound l (callsIn_wide.2 (less_any W0.heap.size _ _ zs ys _ D4.out.cur (HUI.out _ S4.out.2.2) ?hne Z2.out.1 HY.out.1 (canon_len_le HY.out Z2.out.1 HGE.out) HGE.out (by omega)))).mono ?_
      case hne =>
        intro k hk hk2
        have a1 := (u64s_lt D4.out.cur k hk).1
        have a2 := (u64s_lt HU.out k hk2).2
        omega
      rintro e w5 ⟨⟨v5, zs5, rfl, y1, y2, y3⟩, hg5⟩
      obtain ⟨va, vc, rfl⟩ := u64s_form y1
      have D5 := Lib.hid (D4.out.row hg5 y1 (by omega))
      have S5 : Hid (DStep w.heap.size g w1.heap.size W w5) := S4.out.trans (DStep.row D4.out.cur hg5 hsw (by omega) (by omega) (by have := D4.out.size; omega) (by have := D4.out.size; omega) (by have := D4.out.size; omega))
      have Y2 := Lib.hid y2
      have Y3 := Lib.hid y3
      clear y1 y2 y3 hg5 hcr hfr hcb
      have D6 := Lib.hid (D5.out.store (by omega) (by omega) (by omega) (by omega))
      have S6 : Hid (DStep w.heap.size g w1.heap.size W (w5.setCell ⟨w.heap.size + 1 + 1, 0, none⟩ (.slice va zs5.length vc))) := S5.out.trans (DStep.box _ _ _ _ (by omega) (by omega) (by omega))
      have hcr := D5.out.boxr.cell
      have hfr := D5.out.boxr.frozen
      obtain ⟨q, hq⟩ : ∃ q, q = at' / 32 := ⟨_, rfl⟩
      obtain ⟨j, hj⟩ : ∃ j, j = at' % 32 := ⟨_, rfl⟩
      have hqi : (at' : Int) / 32 = (q : Int) := by omega
      have hji : (at' : Int) % 32 = (j : Int) := by omega
      have hqm : q < m := by omega
      have hjm : j < 32 := by omega
      have hdb := digs_getD HFIT.out.2.2 q
      have hcq := D6.out.boxq.cell
      have hcd := row64_cell D6.out.rowq q hqm
      have hfd := row64_frozen D6.out.rowq q
      have hfin : divTo (valw ys) m (List.map (fun x : PB (32 * m) => x.1) pre ++ [(at', bit)]) = (valw zs5, qs.set q (qs.getD q 0 ||| 2 ^ j)) := by
        rw [divTo_snoc, HST.out]
        unfold divStep
        have e3 := Z3.out
        have e4 := HR4.out
        have e5 := HGE.out
        simp only
        rw [← e4, ← e3, if_pos e5, Y3.out, ← hq, ← hj]
      have HFIN := Lib.hid hfin
      clear hfin hq hj
      generalize qs.getD q 0 = d at *
      unfold B at hdb
      obtain ⟨y, hy⟩ : ∃ y, y = d ||| 2 ^ j := ⟨_, rfl⟩
      rw [← hy] at HFIN
      have hor := or_pow64 d j y hdb hjm hy
      have hsh : IntKind.u64.wrap ((2 : Int) ^ j) = 2 ^ j := by rw [IntKind.wrap_u64]; exact shl_one64 j hjm
      clear hy
      have hmix : Tryz.prog.follows .mixedOrders = true := by kernel_rfl
      have hq1 : (0 : Int) ≤ (q : Int) := by omega
      have hq2 : (q : Int) < (m : Int) := by omega
      have hq3 : (0 : Int) ≤ (at' : Int) / 32 := by omega
      have hq4 : (at' : Int) / 32 < (m : Int) := by omega
      have hd1 : (at' : Int).tdiv 32 = (q : Int) := by rw [Int.tdiv_eq_ediv_of_nonneg (by omega)]; exact hqi
      have hd2 : (at' : Int).tmod 32 = (j : Int) := by rw [Int.tmod_eq_emod_of_nonneg (by omega)]; exact hji
      have hd3 : IntKind.i64.wrap (q : Int) = (q : Int) := IntWalk.i64_in _ (by omega)
      have hd4 : IntKind.i64.wrap (j : Int) = (j : Int) := IntWalk.i64_in _ (by omega)
      have hd5 : IntKind.i64.wrap ((at' : Int) / 32) = (q : Int) := by rw [hqi]; exact hd3
      have hd6 : IntKind.i64.wrap ((at' : Int) % 32) = (j : Int) := by rw [hji]; exact hd4
      gi_wp2
      refine wpIn_region_round l rfl (by kernel_rfl) hmix ?_
      refine wpAnyIn_take (i := 1) (v := ?_) rfl rfl (by kernel_rfl) (by kernel_rfl) (by kernel_rfl) (fun _ _ _ h => h) ⟨Or.inl ⟨by rfl, ?_⟩, fun _ => rfl⟩ ?_
      rotate_left
      · intro W; go_simp; try with_reducible rfl
      refine wpAnyIn_take (i := 5) (v := ?_) rfl rfl (by kernel_rfl) (by kernel_rfl) (by kernel_rfl) (fun _ _ _ h => h) ⟨Or.inl ⟨by rfl, ?_⟩, fun _ => rfl⟩ ?_
      rotate_left
      · intro W; go_simp; try with_reducible rfl
      refine wpAnyIn_take (i := 2) (v := ?_) rfl rfl (by kernel_rfl) (by kernel_rfl) (by kernel_rfl) (fun _ _ _ h => h) ⟨Or.inl ⟨by rfl, ?_⟩, fun _ => rfl⟩ ?_
      rotate_left
      · intro W; go_simp; try with_reducible rfl
      refine wpAnyIn_take (i := 6) (v := ?_) rfl rfl (by kernel_rfl) (by kernel_rfl) (by kernel_rfl) (fun _ _ _ h => h) ⟨Or.inl ⟨by rfl, ?_⟩, fun _ => rfl⟩ ?_
      rotate_left
      · intro W; go_simp; try with_reducible rfl
      refine wpAnyIn_take (i := 7) (v := ?_) rfl rfl (by kernel_rfl) (by kernel_rfl) (by kernel_rfl) (fun _ _ _ h => h) ⟨Or.inl ⟨by rfl, ?_⟩, fun _ => rfl⟩ ?_
      rotate_left
      · intro W; go_simp; try with_reducible rfl
      refine wpAnyIn_ready (rs := [0]) (by kernel_rfl) (by simp) ?_
      refine AllReadyIn.cons rfl (fun K hK => ?_) AllReadyIn.nil
      go_simp
      refine hK _ _ ?_
      clear hK K
      refine wpAnyIn_take (i := 3) (v := ?_) rfl rfl (by kernel_rfl) (by kernel_rfl) (by kernel_rfl) (fun _ _ _ h => h) ⟨Or.inl ⟨by rfl, ?_⟩, fun _ => rfl⟩ ?_
      rotate_left
      · intro W; go_simp; try with_reducible rfl
      refine wpAnyIn_ready (rs := [4]) (by kernel_rfl) (by simp) ?_
      refine AllReadyIn.cons rfl (fun K hK => ?_) AllReadyIn.nil
      go_simp
      refine hK _ _ ?_
      clear hK K
      refine wpAnyIn_take (i := 8) (v := ?_) rfl rfl (by kernel_rfl) (by kernel_rfl) (by kernel_rfl) (fun _ _ _ h => h) ⟨Or.inl ⟨by rfl, ?_⟩, fun _ => rfl⟩ ?_
      rotate_left
      · intro W; go_simp; try with_reducible rfl
      refine wpAnyIn_take (i := 9) (v := ?_) rfl rfl (by kernel_rfl) (by kernel_rfl) (by kernel_rfl) (fun _ _ _ h => h) ⟨Or.inl ⟨by rfl, ?_⟩, fun _ => rfl⟩ ?_
      rotate_left
      · intro W; go_simp; try with_reducible rfl
      refine wpAnyIn_ready (rs := [10]) (by kernel_rfl) (by simp) ?_
      refine AllReadyIn.cons rfl (fun K hK => ?_) AllReadyIn.nil
      go_simp
      refine hK _ _ ?_
      clear hK K
      refine wpAnyIn_done (by kernel_rfl) ?_ _
      have D7 := Lib.hid (D6.out.putq q (y : Int) y rfl (by omega))
      have S7 : Hid (DStep w.heap.size g w1.heap.size W (((w5.setCell ⟨w.heap.size + 1 + 1, 0, none⟩ (.slice va zs5.length vc)).setCell ⟨w.heap.size + 1 + 1 + 1, q, none⟩ (.int .u64 (y : Int))).drew)) :=
        S6.out.trans ((DStep.box _ _ _ _ (by omega) (by omega) (by omega)).trans (DStep.drew _))
      have D8 := Lib.hid (D7.out.drewN 1)
      refine ⟨S7.out.1, S7.out.2.1, HBW.out.trans S7.out.2.2, D8.out.boxb, D8.out.boxq, ?_, ⟨_, zs5, D8.out.boxr, D8.out.cur, Y2.out, ?_⟩, D8.out.size⟩
      · rw [HMAP.out, HFIN.out]; exact D8.out.rowq
      · rw [HMAP.out, HFIN.out]
    · have h0 : c < 0 := by
        have := HCM.out
        unfold cmpNat at this
        rw [this, if_pos (by omega)]; decide
      have HGE := Lib.hid hge
      clear hge
      gi_wp2_with (fail)
      refine ⟨trivial, ?_⟩
      refine (CallsIn.inRound l (callsIn_wide.2 HC.out)).mono ?_
      rintro e w4 ⟨rfl, k4, rfl⟩
      have D4 := Lib.hid (D3.out.drewN k4)
      have S4 : Hid (DStep w.heap.size g w1.heap.size W ((w2.setCell ⟨w.heap.size + 1 + 1, 0, none⟩ (.slice za zs.length zc)).drewN k4)) := S3.out.trans (DStep.drewN _ _)
      have hfin : divTo (valw ys) m (List.map (fun x : PB (32 * m) => x.1) pre ++ [(at', bit)]) = (valw zs, qs) := by
        rw [divTo_snoc, HST.out]
        unfold divStep
        have e3 := Z3.out
        have e4 := HR4.out
        have e5 := HGE.out
        simp only
        rw [← e4, ← e3, if_neg e5]
      have HFIN := Lib.hid hfin
      clear hfin
      gi_wp2
      refine ⟨S4.out.1, S4.out.2.1, HBW.out.trans S4.out.2.2, D4.out.boxb, D4.out.boxq, ?_, ⟨_, zs, D4.out.boxr, D4.out.cur, Z2.out, ?_⟩, D4.out.size⟩
      · rw [HMAP.out, HFIN.out]; exact D4.out.rowq
      · rw [HMAP.out, HFIN.out]
  case done =>
    rintro D ys' W hD rfl hI hK
    obtain ⟨hbelow, hboxb, hboxq, hrowq, ⟨rv, rs, hr1, hr2, hr3, hr4⟩, hsize⟩ := hI
    obtain ⟨ra, rc, rfl⟩ := u64s_form hr2
    have hmap := bitsTo_map (valw xs) (32 * m) (32 * m) (Nat.le_refl _)
    rw [hmap] at hrowq hr4
    have hdp := divTo_pairs (valw xs) (valw ys) m HD.out (by have := valw_lt xs HX.out; rwa [HM.out] at this) (32 * m) (Nat.le_refl _)
    rw [Nat.sub_self, Nat.pow_zero, Nat.div_one] at hdp
    rw [hdp.1] at hr4
    have hde := div_end hdp.2
    generalize (divTo (valw ys) m (pairsTo (valw xs) (32 * m) (32 * m))).2 = qs at *
    have HDE := Lib.hid hde
    have HRQ := Lib.hid hrowq
    have HR4 := Lib.hid hr4
    have HR3 := Lib.hid hr3
    have HR2 := Lib.hid hr2
    have HB1 := Lib.hid hboxq
    have HB2 := Lib.hid hr1
    have HBW := Lib.hid hbelow
    have HKD := Lib.hid hK
    have hc1 := hboxq.cell
    have hf1 := hboxq.frozen
    have hc2 := hr1.cell
    have hf2 := hr1.frozen
    have hmix : Tryz.prog.follows .mixedOrders = true := by kernel_rfl
    clear hde hrowq hr4 hr3 hr2 hboxq hr1 hbelow hK hdp hmap hboxb
    gi_wp2
    gi_region_with ((refine ⟨trivial, ?_⟩; gi_at_call 97; refine (callsIn_wide.2 (trim_any w.heap.size _ qs _ (by exact row64_to HRQ.out))).mono ?_; rintro e w' ⟨⟨v', rfl, hv'⟩, rfl⟩; obtain ⟨ta, tc, rfl⟩ := u64s_form hv'))
    all_goals (have HV' := Lib.hid hv'; clear hv')
    all_goals gi_wp2
    all_goals
      obtain ⟨e1, e2, e3, e4⟩ := div_end_world (w := w) (W := W.drew) (W2 := ((W.setCell ⟨w.heap.size + 1, 0, none⟩ (.slice ta (trimL qs).length tc)).setCell ⟨w.heap.size + 1 + 1, 0, none⟩ (.slice ra rs.length rc)).drew) (bq := w.heap.size + 1) (br := w.heap.size + 1 + 1) (D := D) (tv := .slice ta (trimL qs).length tc) (rv := .slice ra rs.length rc) (xs := xs) (ys := ys) rfl HB1.out HB2.out (by omega) (by omega) (by omega) HKD.out (by omega) HBW.out.drew
        HV'.out (u64s_mono HR2.out hsw) (fun k hk => ⟨fun e => by subst e; exact HB1.out.not_row (by decide) HV'.out hk.symm, fun e => by subst e; exact HB2.out.not_row (by decide) HV'.out hk.symm⟩)
        (fun k hk => ⟨fun e => by subst e; exact HB1.out.not_row (by decide) HR2.out hk.symm, fun e => by subst e; exact HB2.out.not_row (by decide) HR2.out hk.symm⟩) (trimL_canon HDE.out.1) (by rw [trimL_val]; exact HDE.out.2) HR3.out HR4.out
      refine ⟨by simp, .inl ⟨_, _, rfl, run_takeDeferred e1, ?_⟩⟩
      generalize World.putObj _ D (.deferred none) = Wf at *
      refine ⟨_, ?_, e4⟩
      simp [results, Tryz.results59, go_sem, e2, e3]
  case stop =>
    rintro D c pre W _ _ h _
    exact h.elim
end Go.Proofs.YteggbpaljmopoaaGreat
/- Walks of naturals: natural, check. -/
namespace Go.Proofs.YteggbpaljmopoaaGreat
open Go.RowKit BF

set_option maxHeartbeats 400000 in
theorem natural_any (s : ByteArray) (w : World) (hs : s.size ≤ maxLen) :
    Calls Tryz.prog 92 #[.string s] w fun e w' => e = .returned (.bool (natB s)) ∧ w = w' := by
  unfold maxLen at hs
  by_cases h0 : s.toList = []
  · have hz : s.size = 0 := by
      have : s.toList.length = 0 := by rw [h0]; rfl
      rw [ByteArray.toList_eq] at this
      simpa using this
    have hb : natB s = true := by
      unfold natB
      have : s.data.toList = [] := List.length_eq_zero_iff.1 hz
      rw [this]; rfl
    have HB := Lib.hid hb
    clear hb hz
    have h1 : s.toList.isEmpty = true := by rw [h0]; rfl
    go_enter Tryz.func92, Tryz.ntmps92
    go_wp2
    go_ret
    exact ⟨by rw [HB.out]; rfl, rfl⟩
  · have hz : 0 < s.size := by
      rcases Nat.eq_zero_or_pos s.size with h | h
      · exfalso; apply h0
        rw [ByteArray.toList_eq]
        exact List.length_eq_zero_iff.1 (by simpa using h)
      · exact h
    have h1 : s.toList.isEmpty = false := by simpa using h0
    have hb : natB s = ((s[0].toNat : Int) != 0) := by
      unfold natB natural
      have hl : 0 < s.data.toList.length := hz
      have e : s.data.toList.head? = some s[0] := by
        rw [List.head?_eq_getElem?, List.getElem?_eq_getElem hl]; rfl
      rw [e]
      have : ∀ b : UInt8, (some b != some 0) = ((b.toNat : Int) != 0) := by
        intro b
        rw [Bool.eq_iff_iff]
        simp [← UInt8.toNat_inj]
      exact this _
    have HB := Lib.hid hb
    clear hb
    go_enter Tryz.func92, Tryz.ntmps92
    go_wp2
    go_ret
    exact ⟨by rw [HB.out]; rfl, rfl⟩

/-- a row of strings in memory -/
def strs (w : World) (g : Nat) (ss : List ByteArray) : Prop := ∀ j, (h : j < ss.length) → w.cell? ⟨g, j, none⟩ = some (.string ss[j])

set_option maxHeartbeats 400000 in
theorem check_any (g cap : Nat) (ss : List ByteArray) (w : World) (hc : strs w g ss) (hs : ∀ s ∈ ss, s.size ≤ maxLen) (hn : ss.length ≤ 1000) :
    Calls Tryz.prog 57 #[.slice (some ⟨g, 0, none⟩) ss.length cap] w fun e w' => e = .returned (.int .i64 (chk ss)) ∧ w = w' := by
  have HC := Lib.hid hc
  have HS := Lib.hid hs
  clear hc hs
  generalize hl : ss.length = n at *
  have HL := Lib.hid hl
  clear hl
  go_enter Tryz.func57, Tryz.ntmps57
  go_wp2
  go_loop [9] (fun i => ∃ k : Nat, k ≤ n ∧ i = .int .i64 (k : Int) ∧ Hid ((ss.take k).all natB = true)) (fun i => n - (intOf i).toNat)
  case atStart => exact ⟨0, Nat.zero_le _, rfl, rfl⟩
  case round =>
    obtain ⟨k, hk, rfl, HA⟩ := hrel
    by_cases hkn : k < n
    · have hkl : k < ss.length := by rw [HL.out]; exact hkn
      have hcell := HC.out k hkl
      have hsz := HS.out ss[k] (List.getElem_mem hkl)
      have HNX := Lib.hid (all_take_succ natB ss k hkl HA.out)
      have HF := Lib.hid (chk_fail ss k hkl)
      generalize ss[k] = s at *
      have hnat := natural_any s w hsz
      generalize natB s = b at *
      have HNAT := Lib.hid hnat
      clear hnat
      cases b with
      | false =>
        go_wp2_with (go_at_call 92; refine HNAT.out.mono ?_; rintro e w' ⟨rfl, rfl⟩)
        go_ret
        exact ⟨by rw [HF.out (by first | rfl | trivial)]; rfl, rfl⟩
      | true =>
        go_wp2_with (go_at_call 92; refine HNAT.out.mono ?_; rintro e w' ⟨rfl, rfl⟩)
        go_round
        case rel => exact ⟨k + 1, by omega, by go_num, HNX.out (by first | rfl | trivial)⟩
        case measure => simp [intOf]; omega
    · obtain rfl : k = n := by omega
      have HALL : Hid (ss.all natB = true) := by
        have := HA.out
        rwa [← HL.out, List.take_length] at this
      go_wp2
      go_loop [19] (fun i => ∃ j : Nat, j ≤ k ∧ i = .int .i64 (j : Int) ∧ Hid ((ss.take j).all (fun s => decide (s.size ≤ 256)) = true)) (fun i => k - (intOf i).toNat)
      case atStart => exact ⟨0, Nat.zero_le _, rfl, rfl⟩
      case round =>
        obtain ⟨j, hj, rfl, HA2⟩ := hrel
        by_cases hjn : j < k
        · have hkl : j < ss.length := by rw [HL.out]; exact hjn
          have hcell := HC.out j hkl
          have HNX := Lib.hid (all_take_succ (fun s => decide (s.size ≤ 256)) ss j hkl HA2.out)
          have HF := Lib.hid (chk_long ss HALL.out j hkl)
          generalize ss[j] = s at *
          by_cases hsz : s.size ≤ 256
          · have hsz' : ¬ (256 : Int) < s.size := by omega
            go_wp2
            go_round
            case rel => exact ⟨j + 1, by omega, by go_num, HNX.out (by simpa using hsz)⟩
            case measure => simp [intOf]; omega
          · have hsz' : (256 : Int) < s.size := by omega
            go_wp2
            go_ret
            exact ⟨by rw [HF.out (by omega)]; rfl, rfl⟩
        · obtain rfl : j = k := by omega
          go_wp2
          go_ret
          refine ⟨?_, rfl⟩
          rw [chk_ok ss HALL.out (by have := HA2.out; rwa [← HL.out, List.take_length] at this)]; rfl
end Go.Proofs.YteggbpaljmopoaaGreat
/- Walks of naturals: short, Add. -/
namespace Go.Proofs.YteggbpaljmopoaaGreat
open Go.RowKit BF

theorem below_u64s {w w' : World} {base : Nat} {v : Value} {xs : List Nat} (h : u64s w base v xs) (hb : Below w.heap.size w w') : u64s w' base v xs :=
  u64s_below h hb (fun k hk => (u64s_lt h k hk).2)

set_option maxHeartbeats 400000 in
theorem short_any (base : Nat) (v : Value) (xs : List Nat) (w : World) (h : u64s w base v xs) (hd : digs xs) (hlen : xs.length ≤ 1000) :
    Calls Tryz.prog 137 #[v] w fun e w' => e = .returned (.tuple #[.string (shortS (valw xs)), .int .i64 (shortE (valw xs))]) ∧ Below w.heap.size w w' := by
  have HT := Lib.hid (text_any base v xs w h hd hlen)
  obtain ⟨va, vc, rfl⟩ := u64s_form h
  clear h
  have hel : Hid ((str (enc (valw xs))).size = (enc (valw xs)).length) := rfl
  by_cases hs : (enc (valw xs)).length ≤ 256
  · have HS : Hid (shortS (valw xs) = str (enc (valw xs)) ∧ shortE (valw xs) = 0) := ⟨if_pos hs, if_pos hs⟩
    have hs2 : ¬ (256 : Int) < (str (enc (valw xs))).size := by rw [hel.out]; omega
    have HT2 : Hid (Calls Tryz.prog 60 #[.slice va xs.length vc] w fun e w' => e = .returned (.string (str (enc (valw xs)))) ∧ Below w.heap.size w w') := HT
    clear HT hs hel
    generalize shortS (valw xs) = S at *
    generalize shortE (valw xs) = E at *
    generalize str (enc (valw xs)) = s at *
    obtain ⟨rfl, rfl⟩ := HS.out
    go_enter Tryz.func137, Tryz.ntmps137
    go_wp2_with (go_at_call 60; refine HT2.out.mono ?_; rintro e w' ⟨rfl, hB⟩)
    go_ret2
    exact ⟨rfl, hB⟩
  · have HS : Hid (shortS (valw xs) = str [] ∧ shortE (valw xs) = 2) := ⟨if_neg hs, if_neg hs⟩
    have hs2 : (256 : Int) < (str (enc (valw xs))).size := by rw [hel.out]; omega
    have HT2 : Hid (Calls Tryz.prog 60 #[.slice va xs.length vc] w fun e w' => e = .returned (.string (str (enc (valw xs)))) ∧ Below w.heap.size w w') := HT
    clear HT hs hel
    generalize shortS (valw xs) = S at *
    generalize shortE (valw xs) = E at *
    generalize str (enc (valw xs)) = s at *
    obtain ⟨rfl, rfl⟩ := HS.out
    go_enter Tryz.func137, Tryz.ntmps137
    go_wp2_with (go_at_call 60; refine HT2.out.mono ?_; rintro e w' ⟨rfl, hB⟩)
    go_ret2
    exact ⟨rfl, hB⟩

theorem strs2 (w : World) (a b : ByteArray) (T : TypeId) : strs (w.alloc (.cells #[.string a, .string b] T)) w.heap.size [a, b] := by
  intro j h
  match j, h with
  | 0, _ => simp [go_sem]
  | 1, _ => simp [go_sem]

set_option maxRecDepth 100000 in
set_option maxHeartbeats 1000000 in
theorem Add_any (a b : ByteArray) (w : World) (ha : a.size ≤ maxLen) (hb : b.size ≤ maxLen) :
    Calls Tryz.prog 98 #[.string a, .string b] w fun e w' => e = .returned (.tuple #[.string (addS a b), .int .i64 (addE a b)]) ∧ Below w.heap.size w w' := by
  obtain ⟨i0, hi, hz0, hz1, hz2⟩ := info_parts info64
  have hck := check_any w.heap.size 2 [a, b] (w.alloc (.cells #[.string a, .string b] 9)) (strs2 w a b _) (by simp; exact ⟨ha, hb⟩) (by simp)
  have HCK := Lib.hid hck
  clear hck
  by_cases hc : chk [a, b] = 0
  · have hS : addS a b = shortS (val a + val b) ∧ addE a b = shortE (val a + val b) := ⟨if_pos hc, if_pos hc⟩
    obtain ⟨n1, n2, s1, s2⟩ := chk2_ok hc
    have HS := Lib.hid hS
    have N1 := Lib.hid n1
    have N2 := Lib.hid n2
    rw [hc] at HCK
    clear hS n1 n2 hc
    generalize addS a b = S at *
    generalize addE a b = E at *
    go_enter Tryz.func98, Tryz.ntmps98
    go_wp2_with (go_at_call 57; refine HCK.out.mono ?_; rintro e w' ⟨rfl, rfl⟩)
    refine (words_any w.heap.size a _ (by simp) (by omega)).mono ?_
    rintro e w1 ⟨⟨v1, xs, rfl, u1, r1⟩, b1⟩
    obtain ⟨xa, xc, rfl⟩ := u64s_form u1
    have hw1 : w.heap.size < w1.heap.size := by have := b1.size; simp at this; omega
    go_wp2_with (fail)
    refine (words_any w.heap.size b _ (by omega) (by omega)).mono ?_
    rintro e w2 ⟨⟨v2, ys, rfl, u2, r2⟩, b2⟩
    obtain ⟨ya, yc, rfl⟩ := u64s_form u2
    have hx := words_end r1 N1.out
    have hy := words_end r2 N2.out
    have hxl := words_len r1
    have hyl := words_len r2
    have U1 := Lib.hid (below_u64s u1 b2)
    have U2 := Lib.hid u2
    have HX := Lib.hid hx
    have HY := Lib.hid hy
    have HB : Hid (Below w.heap.size w w2) := (((Below.refl _ w).alloc (Nat.le_refl _) _).trans (b1.mono (by simp))).trans (b2.mono (by omega))
    have hw2 := b2.size
    clear hx hy r1 r2 u1 u2 b1 b2
    have hxn : xs.length ≤ 100 := by omega
    have hyn : ys.length ≤ 100 := by omega
    generalize hn : xs.length = n at *
    generalize hm : ys.length = m at *
    have HN := Lib.hid hn
    have HM := Lib.hid hm
    clear hn hm hxl hyl
    generalize hnb : w2.heap.size = nb at *
    have HNB := Lib.hid hnb
    clear hnb
    have hxc : Hid (∀ wr, Below nb w2 wr → ∀ j, j < n → ∃ g, xa = some ⟨g, 0, none⟩ ∧ wr.cell? ⟨g, j, none⟩ = some (.int .u64 ((xs.getD j 0 : Nat) : Int))) := by
      rcases u64s_cases U1.out with ⟨e1, rfl⟩ | ⟨g, cap, e1, a1, a2, a3, a4, a5, a6⟩
      · intro wr _ j hj; have := HN.out; simp at this; omega
      · cases e1
        intro wr hb j hj
        exact ⟨g, rfl, (hb.cell (p := ⟨g, j, none⟩) (by rw [HNB.out] at a2; exact a2)).trans (a5 j (by rw [HN.out]; exact hj))⟩
    have hyc : Hid (∀ wr, Below nb w2 wr → ∀ j, j < m → ∃ g, ya = some ⟨g, 0, none⟩ ∧ wr.cell? ⟨g, j, none⟩ = some (.int .u64 ((ys.getD j 0 : Nat) : Int))) := by
      rcases u64s_cases U2.out with ⟨e1, rfl⟩ | ⟨g, cap, e1, a1, a2, a3, a4, a5, a6⟩
      · intro wr _ j hj; have := HM.out; simp at this; omega
      · cases e1
        intro wr hb j hj
        exact ⟨g, rfl, (hb.cell (p := ⟨g, j, none⟩) (by rw [HNB.out] at a2; exact a2)).trans (a5 j (by rw [HM.out]; exact hj))⟩
    go_wp2
    go_loopw [9, 10, 11] (fun v o i wr => ∃ (k bo : Nat) (zs : List Nat), k + bo ≤ n + m + 1 ∧ bo ≤ 1 ∧ u64s wr nb v zs ∧ o = .int .u64 (bo : Int) ∧ i = .int .i64 (k : Int) ∧ AddRel xs ys zs k bo ∧ Below nb w2 wr) (fun _ _ i _ => n + m + 1 - (intOf i).toNat)
    case atStart => exact ⟨0, 0, [], by omega, by omega, World.ownsRow_nil _ _ _ _, rfl, rfl, add_start _ _, Below.refl _ _⟩
    case round =>
      obtain ⟨k, bo, zs, hk, hbo, hz, rfl, rfl, hrel, hBr⟩ := hrel
      obtain ⟨za, zc, rfl⟩ := u64s_form hz
      have hzl : zs.length ≤ 300 := by have := hrel.1; omega
      have HZ := Lib.hid hz
      have HR := Lib.hid hrel
      have hnb : nb ≤ wr.heap.size := by have := hBr.size; rw [HNB.out] at this; exact this
      have hst := add_step HR.out HX.out.1.1 HY.out.1.1
      have HST := Lib.hid hst
      have hxb := digs_getD HX.out.1.1 k
      have hyb := digs_getD HY.out.1.1 k
      have hx0 : n ≤ k → xs.getD k 0 = 0 := fun h => getD_none xs k (by rw [HN.out]; exact h)
      have hy0 : m ≤ k → ys.getD k 0 = 0 := fun h => getD_none ys k (by rw [HM.out]; exact h)
      unfold B at hxb hyb
      clear hrel hst hz
      have hr3 : World.ownsRow wr nb 141 1 (.slice za zs.length zc) zs.length (zs.map U64) := HZ.out
      by_cases hkn : k < n
      · obtain ⟨gx, rfl, hcx⟩ := hxc.out wr hBr k hkn
        clear hx0
        by_cases hkm : k < m
        · obtain ⟨gy, rfl, hcy⟩ := hyc.out wr hBr k hkm
          clear hy0
          generalize xs.getD k 0 = x at *
          generalize ys.getD k 0 = y at *
          have ht0 : (0 : Int) ≤ (bo : Int) + x + y := by omega
          have hmk := mask32i ((bo : Int) + x + y) ht0 (by omega)
          go_wp2_with (at_builtin; refine wpList_append_own _ rfl _ _ 98 rfl nb 141 i0 (.int .u64 0) 1 8 Tryz.underlying98 hi hz0 hz1 hz2 rfl (by decide) _ _ _ rfl (hr3.alloc _) ⟨wr.heap.size, 0, none⟩ 1 1 [_] rfl rfl (one_cell _ _ _) (one_one _ rfl) (by unfold maxLen; omega) (by omega) (by simp; omega) ?_; intro v' w3 hown' hgrow _; clear hr3)
          have hb3 := (hBr.alloc hnb _).grown hgrow (by simp; omega) (fun q hq => (u64s_lt HZ.out q hq).1)
          go_roundw
          case rel => exact ⟨k + 1, (bo + x + y) / B, _, by unfold B; omega, by unfold B; omega, u64s_app ((bo + x + y) % B) hown' (by unfold B; omega), by unfold B; go_num, by go_num, HST.out, hb3⟩
          case measure => simp [intOf]; omega
        · have hy0 := hy0 (by omega)
          generalize xs.getD k 0 = x at *
          generalize ys.getD k 0 = y at *
          subst hy0
          obtain ⟨y, hy⟩ : ∃ y, y = 0 := ⟨_, rfl⟩
          rw [← hy] at HST
          have HY0 := Lib.hid hy
          clear hy
          have ht0 : (0 : Int) ≤ (bo : Int) + x := by omega
          have hmk := mask32i ((bo : Int) + x) ht0 (by omega)
          go_wp2_with (at_builtin; refine wpList_append_own _ rfl _ _ 98 rfl nb 141 i0 (.int .u64 0) 1 8 Tryz.underlying98 hi hz0 hz1 hz2 rfl (by decide) _ _ _ rfl (hr3.alloc _) ⟨wr.heap.size, 0, none⟩ 1 1 [_] rfl rfl (one_cell _ _ _) (one_one _ rfl) (by unfold maxLen; omega) (by omega) (by simp; omega) ?_; intro v' w3 hown' hgrow _; clear hr3)
          have hb3 := (hBr.alloc hnb _).grown hgrow (by simp; omega) (fun q hq => (u64s_lt HZ.out q hq).1)
          go_roundw
          case rel => exact ⟨k + 1, (bo + x + y) / B, _, by have := HY0.out; unfold B; omega, by have := HY0.out; unfold B; omega, u64s_app ((bo + x + y) % B) hown' (by have := HY0.out; unfold B; omega), by rw [HY0.out]; unfold B; go_num, by go_num, HST.out, hb3⟩
          case measure => simp [intOf]; omega
      · have hx0 := hx0 (by omega)
        by_cases hkm : k < m
        · obtain ⟨gy, rfl, hcy⟩ := hyc.out wr hBr k hkm
          clear hy0
          generalize xs.getD k 0 = x at *
          generalize ys.getD k 0 = y at *
          subst hx0
          obtain ⟨x, hx⟩ : ∃ x, x = 0 := ⟨_, rfl⟩
          rw [← hx] at HST
          have HX0 := Lib.hid hx
          clear hx
          have ht0 : (0 : Int) ≤ (bo : Int) + y := by omega
          have hmk := mask32i ((bo : Int) + y) ht0 (by omega)
          go_wp2_with (at_builtin; refine wpList_append_own _ rfl _ _ 98 rfl nb 141 i0 (.int .u64 0) 1 8 Tryz.underlying98 hi hz0 hz1 hz2 rfl (by decide) _ _ _ rfl (hr3.alloc _) ⟨wr.heap.size, 0, none⟩ 1 1 [_] rfl rfl (one_cell _ _ _) (one_one _ rfl) (by unfold maxLen; omega) (by omega) (by simp; omega) ?_; intro v' w3 hown' hgrow _; clear hr3)
          have hb3 := (hBr.alloc hnb _).grown hgrow (by simp; omega) (fun q hq => (u64s_lt HZ.out q hq).1)
          go_roundw
          case rel => exact ⟨k + 1, (bo + x + y) / B, _, by have := HX0.out; unfold B; omega, by have := HX0.out; unfold B; omega, u64s_app ((bo + x + y) % B) hown' (by have := HX0.out; unfold B; omega), by rw [HX0.out]; unfold B; go_num, by go_num, HST.out, hb3⟩
          case measure => simp [intOf]; omega
        · have hy0 := hy0 (by omega)
          rw [hx0, hy0] at HST
          clear hx0 hy0 hxb hyb
          by_cases hb1 : bo = 1
          · subst hb1
            have hmk : bits .and .u64 1 4294967295 = 1 := by have := mask32i 1 (by omega) (by omega); rw [this]; rfl
            go_wp2_with (at_builtin; refine wpList_append_own _ rfl _ _ 98 rfl nb 141 i0 (.int .u64 0) 1 8 Tryz.underlying98 hi hz0 hz1 hz2 rfl (by decide) _ _ _ rfl (hr3.alloc _) ⟨wr.heap.size, 0, none⟩ 1 1 [_] rfl rfl (one_cell _ _ _) (one_one _ rfl) (by unfold maxLen; omega) (by omega) (by simp; omega) ?_; intro v' w3 hown' hgrow _; clear hr3)
            have hb3 := (hBr.alloc hnb _).grown hgrow (by simp; omega) (fun q hq => (u64s_lt HZ.out q hq).1)
            go_roundw
            case rel => exact ⟨k + 1, (1 + 0 + 0) / B, _, by unfold B; omega, by unfold B; omega, u64s_app ((1 + 0 + 0) % B) hown' (by unfold B; rfl), rfl, by go_num, HST.out, hb3⟩
            case measure => simp [intOf]; omega
          · obtain rfl : bo = 0 := by omega
            have he := add_end HR.out (by rw [HN.out]; omega) (by rw [HM.out]; omega)
            have HSH := Lib.hid (short_any nb _ zs wr HZ.out he.1 (by omega))
            have HV := Lib.hid he.2
            clear he
            rw [HV.out, HX.out.2, HY.out.2] at HSH
            have HS2 : Hid (shortS (dec a.data.toList + dec b.data.toList) = S ∧ shortE (dec a.data.toList + dec b.data.toList) = E) := ⟨HS.out.1.symm, HS.out.2.symm⟩
            clear HS
            generalize shortS (dec a.data.toList + dec b.data.toList) = S' at *
            generalize shortE (dec a.data.toList + dec b.data.toList) = E' at *
            go_wp2_with (go_at_call 137; refine HSH.out.mono ?_; rintro e w3 ⟨rfl, hb3⟩)
            go_ret2
            exact ⟨by rw [← HS2.out.1, ← HS2.out.2]; rfl, (HB.out.trans (hBr.mono (by have := HB.out.size; rw [HNB.out] at this; exact this))).trans (hb3.mono (by have := HB.out.size; rw [HNB.out] at this; omega))⟩
  · have hS : addS a b = str [] ∧ addE a b = chk [a, b] := ⟨if_neg hc, if_neg hc⟩
    have HS := Lib.hid hS
    generalize chk [a, b] = c at *
    have hc2 : (c != 0) = true := by simpa using hc
    generalize addS a b = S at *
    generalize addE a b = E at *
    clear hS hc
    obtain ⟨rfl, rfl⟩ := HS.out
    go_enter Tryz.func98, Tryz.ntmps98
    go_wp2_with (go_at_call 57; refine HCK.out.mono ?_; rintro e w' ⟨rfl, rfl⟩)
    go_ret2
    exact ⟨rfl, (Below.refl _ _).alloc (Nat.le_refl _) _⟩
end Go.Proofs.YteggbpaljmopoaaGreat
/- Walks of naturals: Sub, Compare, Div, Gcd, Check. -/
namespace Go.Proofs.YteggbpaljmopoaaGreat
open Go.RowKit BF

/-- the digits of two strings that were checked -/
theorem words2 {a b : ByteArray} {w w1 w2 : World} {v1 v2 : Value} {xs ys : List Nat} {base : Nat} (n1 : natB a = true) (n2 : natB b = true) (s1 : a.size ≤ 256) (s2 : b.size ≤ 256)
    (u1 : u64s w1 base v1 xs) (r1 : WordsRel a.data.toList xs a.size) (b2 : Below w1.heap.size w1 w2) (u2 : u64s w2 w1.heap.size v2 ys) (r2 : WordsRel b.data.toList ys b.size) :
    u64s w2 base v1 xs ∧ canon xs ∧ valw xs = val a ∧ xs.length ≤ 100 ∧ canon ys ∧ valw ys = val b ∧ ys.length ≤ 100 ∧ (∀ k, v1.ownBlock = some k → v2.ownBlock ≠ some k) := by
  have hx := words_end r1 n1
  have hy := words_end r2 n2
  have hxl := words_len r1
  have hyl := words_len r2
  refine ⟨below_u64s u1 b2, hx.1, hx.2, by omega, hy.1, hy.2, by omega, fun k hk hk2 => ?_⟩
  have a1 := (u64s_lt u1 k hk).2
  have a2 := (u64s_lt u2 k hk2).1
  omega

set_option maxRecDepth 100000 in
set_option maxHeartbeats 1000000 in
theorem Sub_any (a b : ByteArray) (w : World) (ha : a.size ≤ maxLen) (hb : b.size ≤ maxLen) :
    Calls Tryz.prog 208 #[.string a, .string b] w fun e w' => e = .returned (.tuple #[.string (subS a b), .int .i64 (subE a b)]) ∧ Below w.heap.size w w' := by
  have HCK := Lib.hid (check_any w.heap.size 2 [a, b] (w.alloc (.cells #[.string a, .string b] 9)) (strs2 w a b _) (by simp; exact ⟨ha, hb⟩) (by simp))
  have HAL : Hid (Below w.heap.size w (w.alloc (.cells #[.string a, .string b] 9))) := (Below.refl _ _).alloc (Nat.le_refl _) _
  by_cases hc : chk [a, b] = 0
  · obtain ⟨n1, n2, s1, s2⟩ := chk2_ok hc
    have hS : subS a b = (if val b ≤ val a then str (enc (val a - val b)) else str []) ∧ subE a b = (if val b ≤ val a then 0 else 1) := by
      unfold subS subE; simp [hc]
    have HS := Lib.hid hS
    have N1 := Lib.hid n1
    have N2 := Lib.hid n2
    rw [hc] at HCK
    clear hS n1 n2 hc
    generalize subS a b = S at *
    generalize subE a b = E at *
    go_enter Tryz.func208, Tryz.ntmps208
    go_wp2_with (go_at_call 57; refine HCK.out.mono ?_; rintro e w' ⟨rfl, rfl⟩)
    refine (words_any w.heap.size a _ (by simp) (by omega)).mono ?_
    rintro e w1 ⟨⟨v1, xs, rfl, u1, r1⟩, b1⟩
    obtain ⟨xa, xc, rfl⟩ := u64s_form u1
    have hw1 : w.heap.size < w1.heap.size := by have := b1.size; simp at this; omega
    go_wp2_with (fail)
    refine (words_any w1.heap.size b _ (by omega) (by omega)).mono ?_
    rintro e w2 ⟨⟨v2, ys, rfl, u2, r2⟩, b2⟩
    obtain ⟨ya, yc, rfl⟩ := u64s_form u2
    have HU := Lib.hid (words2 (w := w) N1.out N2.out s1 s2 u1 r1 b2 u2 r2)
    have U2 := Lib.hid u2
    have hxl := HU.out.2.2.2.1
    have hyl := HU.out.2.2.2.2.2.2.1
    have HB : Hid (Below w.heap.size w w2) := (HAL.out.trans (b1.mono (by simp))).trans (b2.mono (by omega))
    clear u1 u2 r1 r2 b1 b2 HAL
    have HC := Lib.hid (compare_any _ _ _ _ xs ys w2 HU.out.1 U2.out HU.out.2.1 HU.out.2.2.2.2.1 (by omega) (by omega))
    have hcl := cmpNat_lt (a := valw xs) (b := valw ys)
    rw [HU.out.2.2.1, HU.out.2.2.2.2.2.1] at HC hcl
    generalize cmpNat (val a) (val b) = c at *
    by_cases hlt : val b ≤ val a
    · have hc0 : ¬ c < 0 := fun h => by have := hcl.1 h; omega
      have HS2 : Hid (S = str (enc (val a - val b)) ∧ E = 0) := by
        have := HS.out
        rw [if_pos hlt, if_pos hlt] at this
        exact this
      have HLT := Lib.hid hlt
      clear hcl HS hlt
      go_wp2_with (go_at_call 95; refine HC.out.mono ?_; rintro e w3 ⟨rfl, k, rfl⟩)
      refine (less_any _ _ _ xs ys _ (by exact HU.out.1) (by exact u64s_mono U2.out (Nat.zero_le _)) HU.out.2.2.2.2.2.2.2 HU.out.2.1.1 HU.out.2.2.2.2.1.1 (canon_len_le HU.out.2.2.2.2.1 HU.out.2.1.1 ?h1) ?h1 (by omega)).mono ?_
      case h1 => rw [HU.out.2.2.1, HU.out.2.2.2.2.2.1]; exact HLT.out
      rintro e w4 ⟨⟨v4, zs, rfl, z1, z2, z3⟩, hg⟩
      obtain ⟨za, zc, rfl⟩ := u64s_form z1
      have hzl : zs.length ≤ 300 := Nat.le_trans (canon_len_le z2 HU.out.2.1.1 (by rw [z3]; omega)) (by omega)
      have HT := Lib.hid (text_any _ _ zs w4 z1 z2.1 (by omega))
      rw [z3, HU.out.2.2.1, HU.out.2.2.2.2.2.1] at HT
      have HT2 : Hid (Calls Tryz.prog 60 #[.slice za zs.length zc] w4 fun e w' => e = .returned (.string S) ∧ Below w4.heap.size w4 w') := by
        rw [HS2.out.1]; exact HT
      have HB4 : Hid (Below w.heap.size w w4) := (below_drewN HB.out k).grown hg (by have := HB.out.size; exact this) (fun q hq => (u64s_lt HU.out.1 q hq).1)
      clear z1 z2 z3 hg HT
      go_wp2_with (go_at_call 60; refine HT2.out.mono ?_; rintro e w5 ⟨rfl, hb5⟩)
      go_ret2
      exact ⟨by rw [HS2.out.2]; rfl, HB4.out.trans (hb5.mono HB4.out.size)⟩
    · have hc0 : c < 0 := hcl.2 (by omega)
      have HS2 : Hid (S = str [] ∧ E = 1) := by
        have := HS.out
        rw [if_neg hlt, if_neg hlt] at this
        exact this
      clear hcl HS hlt
      go_wp2_with (go_at_call 95; refine HC.out.mono ?_; rintro e w3 ⟨rfl, k, rfl⟩)
      go_ret2
      exact ⟨by rw [HS2.out.2, HS2.out.1]; rfl, below_drewN HB.out k⟩
  · have hS : subS a b = str [] ∧ subE a b = chk [a, b] := by unfold subS subE; simp [hc]
    have HS := Lib.hid hS
    generalize chk [a, b] = c at *
    have hc2 : (c != 0) = true := by simpa using hc
    generalize subS a b = S at *
    generalize subE a b = E at *
    clear hS hc
    obtain ⟨rfl, rfl⟩ := HS.out
    go_enter Tryz.func208, Tryz.ntmps208
    go_wp2_with (go_at_call 57; refine HCK.out.mono ?_; rintro e w' ⟨rfl, rfl⟩)
    go_ret2
    exact ⟨rfl, HAL.out⟩
set_option maxRecDepth 100000 in
set_option maxHeartbeats 1000000 in
theorem Compare_any (a b : ByteArray) (w : World) (ha : a.size ≤ maxLen) (hb : b.size ≤ maxLen) :
    Calls Tryz.prog 262 #[.string a, .string b] w fun e w' => e = .returned (.tuple #[.int .i64 (cmpN a b), .int .i64 (chk [a, b])]) ∧ Below w.heap.size w w' := by
  have HCK := Lib.hid (check_any w.heap.size 2 [a, b] (w.alloc (.cells #[.string a, .string b] 9)) (strs2 w a b _) (by simp; exact ⟨ha, hb⟩) (by simp))
  have HAL : Hid (Below w.heap.size w (w.alloc (.cells #[.string a, .string b] 9))) := (Below.refl _ _).alloc (Nat.le_refl _) _
  by_cases hc : chk [a, b] = 0
  · obtain ⟨n1, n2, s1, s2⟩ := chk2_ok hc
    have hS : cmpN a b = cmpNat (val a) (val b) := if_pos hc
    have HS := Lib.hid hS
    have N1 := Lib.hid n1
    have N2 := Lib.hid n2
    rw [hc] at HCK
    clear hS n1 n2
    rw [hc]
    clear hc
    generalize cmpN a b = S at *
    go_enter Tryz.func262, Tryz.ntmps262
    go_wp2_with (go_at_call 57; refine HCK.out.mono ?_; rintro e w' ⟨rfl, rfl⟩)
    refine (words_any w.heap.size a _ (by simp) (by omega)).mono ?_
    rintro e w1 ⟨⟨v1, xs, rfl, u1, r1⟩, b1⟩
    obtain ⟨xa, xc, rfl⟩ := u64s_form u1
    have hw1 : w.heap.size < w1.heap.size := by have := b1.size; simp at this; omega
    go_wp2_with (fail)
    refine (words_any w1.heap.size b _ (by omega) (by omega)).mono ?_
    rintro e w2 ⟨⟨v2, ys, rfl, u2, r2⟩, b2⟩
    obtain ⟨ya, yc, rfl⟩ := u64s_form u2
    have HU := Lib.hid (words2 (w := w) N1.out N2.out s1 s2 u1 r1 b2 u2 r2)
    have U2 := Lib.hid u2
    have hxl := HU.out.2.2.2.1
    have hyl := HU.out.2.2.2.2.2.2.1
    have HB : Hid (Below w.heap.size w w2) := (HAL.out.trans (b1.mono (by simp))).trans (b2.mono (by omega))
    clear u1 u2 r1 r2 b1 b2 HAL
    have HC := Lib.hid (compare_any _ _ _ _ xs ys w2 HU.out.1 U2.out HU.out.2.1 HU.out.2.2.2.2.1 (by omega) (by omega))
    rw [HU.out.2.2.1, HU.out.2.2.2.2.2.1, ← HS.out] at HC
    go_wp2_with (go_at_call 95; refine HC.out.mono ?_; rintro e w3 ⟨rfl, k, rfl⟩)
    go_ret2
    exact ⟨rfl, below_drewN HB.out k⟩
  · have hS : cmpN a b = 0 := if_neg hc
    have HS := Lib.hid hS
    generalize cmpN a b = S at *
    generalize chk [a, b] = c at *
    have hc2 : (c != 0) = true := by simpa using hc
    clear hS hc
    go_enter Tryz.func262, Tryz.ntmps262
    go_wp2_with (go_at_call 57; refine HCK.out.mono ?_; rintro e w' ⟨rfl, rfl⟩)
    go_ret2
    exact ⟨by rw [HS.out]; rfl, HAL.out⟩

set_option maxHeartbeats 400000 in
theorem Check_any (a : ByteArray) (w : World) (ha : a.size ≤ maxLen) :
    Calls Tryz.prog 32 #[.string a] w fun e w' => e = .returned (.int .i64 (chk [a])) ∧ Below w.heap.size w w' := by
  have HCK := Lib.hid (check_any w.heap.size 1 [a] (w.alloc (.cells #[.string a] 9)) (fun j h => by match j, h with | 0, _ => simp [go_sem]) (by simp; exact ha) (by simp))
  have HAL : Hid (Below w.heap.size w (w.alloc (.cells #[.string a] 9))) := (Below.refl _ _).alloc (Nat.le_refl _) _
  generalize chk [a] = c at *
  go_enter Tryz.func32, Tryz.ntmps32
  go_wp2_with (go_at_call 57; refine HCK.out.mono ?_; rintro e w' ⟨rfl, rfl⟩)
  go_ret
  exact ⟨rfl, HAL.out⟩

set_option maxRecDepth 100000 in
set_option maxHeartbeats 1000000 in
theorem Div_any (a b : ByteArray) (w : World) (ha : a.size ≤ maxLen) (hb : b.size ≤ maxLen) :
    Calls Tryz.prog 64 #[.string a, .string b] w fun e w' => e = .returned (.tuple #[.string (divQ a b), .string (divR a b), .int .i64 (divE a b)]) ∧ Below w.heap.size w w' := by
  have HCK := Lib.hid (check_any w.heap.size 2 [a, b] (w.alloc (.cells #[.string a, .string b] 9)) (strs2 w a b _) (by simp; exact ⟨ha, hb⟩) (by simp))
  have HAL : Hid (Below w.heap.size w (w.alloc (.cells #[.string a, .string b] 9))) := (Below.refl _ _).alloc (Nat.le_refl _) _
  by_cases hc : chk [a, b] = 0
  · obtain ⟨n1, n2, s1, s2⟩ := chk2_ok hc
    by_cases hz : b.size = 0
    · have hS : divQ a b = str [] ∧ divR a b = str [] ∧ divE a b = 71 := by
        unfold divQ divR divE divOk; simp [hc, hz]
      have HS := Lib.hid hS
      have hbt : b.toList.isEmpty = true := by
        rw [ByteArray.toList_eq, List.isEmpty_iff]
        exact List.length_eq_zero_iff.1 hz
      have hbt2 : b.toList = [] := by simpa using hbt
      rw [hc] at HCK
      clear hS n1 n2 hc hz
      generalize divQ a b = S at *
      generalize divR a b = S2 at *
      generalize divE a b = E at *
      go_enter Tryz.func64, Tryz.ntmps64
      go_wp2_with (go_at_call 57; refine HCK.out.mono ?_; rintro e w' ⟨rfl, rfl⟩)
      go_ret3
      exact ⟨by rw [HS.out.1, HS.out.2.1, HS.out.2.2]; rfl, HAL.out⟩
    · have hS : divQ a b = str (enc (val a / val b)) ∧ divR a b = str (enc (val a % val b)) ∧ divE a b = 0 := by
        unfold divQ divR divE divOk; simp [hc, hz]
      have HS := Lib.hid hS
      have hvp := val_pos n2 hz
      have HVP := Lib.hid hvp
      have hbt : b.toList.isEmpty = false := by
        rw [ByteArray.toList_eq, List.isEmpty_eq_false_iff]
        intro h
        exact hz (by have := congrArg List.length h; exact this)
      have hbt2 : ¬ b.toList = [] := by simpa using hbt
      have N1 := Lib.hid n1
      have N2 := Lib.hid n2
      rw [hc] at HCK
      clear hS n1 n2 hc hz hvp
      generalize divQ a b = S at *
      generalize divR a b = S2 at *
      generalize divE a b = E at *
      go_enter Tryz.func64, Tryz.ntmps64
      go_wp2_with (go_at_call 57; refine HCK.out.mono ?_; rintro e w' ⟨rfl, rfl⟩)
      refine (words_some w.heap.size a _ (by simp) (by omega)).mono ?_
      rintro e w1 ⟨⟨g, xc, xs, rfl, u1, r1⟩, b1⟩
      have hw1 : w.heap.size < w1.heap.size := by have := b1.size; simp at this; omega
      go_wp2_with (fail)
      refine (words_any w1.heap.size b _ (by omega) (by omega)).mono ?_
      rintro e w2 ⟨⟨v2, ys, rfl, u2, r2⟩, b2⟩
      obtain ⟨ya, yc, rfl⟩ := u64s_form u2
      have HU := Lib.hid (words2 (w := w) N1.out N2.out s1 s2 u1 r1 b2 u2 r2)
      have U2 := Lib.hid u2
      have hxl := HU.out.2.2.2.1
      have hyl := HU.out.2.2.2.2.2.2.1
      have HB : Hid (Below w.heap.size w w2) := (HAL.out.trans (b1.mono (by simp))).trans (b2.mono (by omega))
      clear u1 u2 r1 r2 b1 b2 HAL
      have HV : Hid (valw ys = val b) := HU.out.2.2.2.2.2.1
      have hyne : ys ≠ [] := by
        intro h
        have h1 := HV.out
        have h2 := HVP.out
        rw [h] at h1
        simp [valw] at h1
        omega
      have HDV := Lib.hid (divide_some xs ys w2 g xc _ (u64s_mono HU.out.1 (Nat.zero_le _)) (u64s_mono U2.out (Nat.zero_le _)) HU.out.2.1.1 HU.out.2.2.2.2.1 hyne (by omega) (by omega))
      clear hyne
      go_wp2_with (fail)
      refine HDV.out.mono ?_
      rintro e w3 ⟨⟨vq, vr, qs, rs, rfl, q1, q2, q3, q4, q5, q6⟩, hb3⟩
      obtain ⟨qa, qc, rfl⟩ := u64s_form q1
      obtain ⟨ra, rc, rfl⟩ := u64s_form q4
      have hql : qs.length ≤ 300 := Nat.le_trans (canon_len_le q2 HU.out.2.1.1 (by rw [q3]; exact Nat.div_le_self _ _)) (by omega)
      have hrl : rs.length ≤ 300 := Nat.le_trans (canon_len_le q5 HU.out.2.2.2.2.1.1 (by rw [q6]; exact Nat.le_of_lt (Nat.mod_lt _ (by rw [HV.out]; exact HVP.out)))) (by omega)
      have HTQ := Lib.hid (text_any _ _ qs w3 q1 q2.1 (by omega))
      have HQ4 := Lib.hid q4
      have HQ5 := Lib.hid q5
      rw [q3, HU.out.2.2.1, HV.out] at HTQ
      have HQ6 : Hid (valw rs = val a % val b) := by rw [q6, HU.out.2.2.1, HV.out]; exact rfl
      have HT2 : Hid (Calls Tryz.prog 60 #[.slice qa qs.length qc] w3 fun e w' => e = .returned (.string S) ∧ Below w3.heap.size w3 w') := by
        rw [HS.out.1]; exact HTQ
      have HB3 : Hid (Below w.heap.size w w3) := HB.out.trans (hb3.mono HB.out.size)
      clear q1 q2 q3 q4 q5 q6 HTQ hb3
      go_wp2_with (fail)
      refine HT2.out.mono ?_
      rintro e w4 ⟨rfl, hb4⟩
      have HTR := Lib.hid (text_any _ _ rs w4 (below_u64s HQ4.out hb4) HQ5.out.1 (by omega))
      rw [HQ6.out] at HTR
      have HTR2 : Hid (Calls Tryz.prog 60 #[.slice ra rs.length rc] w4 fun e w' => e = .returned (.string S2) ∧ Below w4.heap.size w4 w') := by
        rw [HS.out.2.1]; exact HTR
      have HB4 : Hid (Below w.heap.size w w4) := HB3.out.trans (hb4.mono HB3.out.size)
      clear HTR hb4
      go_wp2_with (fail)
      refine HTR2.out.mono ?_
      rintro e w5 ⟨rfl, hb5⟩
      go_wp2
      go_ret3
      exact ⟨by rw [HS.out.2.2]; rfl, HB4.out.trans (hb5.mono HB4.out.size)⟩
  · have hS : divQ a b = str [] ∧ divR a b = str [] ∧ divE a b = chk [a, b] := by
      unfold divQ divR divE divOk; simp [hc]
    have HS := Lib.hid hS
    generalize divQ a b = S at *
    generalize divR a b = S2 at *
    generalize divE a b = E at *
    generalize chk [a, b] = c at *
    have hc2 : (c != 0) = true := by simpa using hc
    clear hS hc
    go_enter Tryz.func64, Tryz.ntmps64
    go_wp2_with (go_at_call 57; refine HCK.out.mono ?_; rintro e w' ⟨rfl, rfl⟩)
    go_ret3
    exact ⟨by rw [HS.out.1, HS.out.2.1, HS.out.2.2]; rfl, HAL.out⟩
end Go.Proofs.YteggbpaljmopoaaGreat
/- Walks of naturals: Gcd. -/
namespace Go.Proofs.YteggbpaljmopoaaGreat
open Go.RowKit BF

/-- the value of a slice of digits, read off the memory -/
def valOf (w : World) : Value → Nat
  | .slice (some a) n _ => valw ((List.range n).map fun j => match w.cell? ⟨a.block, j, none⟩ with | some (.int _ x) => x.toNat | _ => 0)
  | _ => 0

theorem valOf_eq {w : World} {base : Nat} {v : Value} {xs : List Nat} (h : u64s w base v xs) : valOf w v = valw xs := by
  rcases u64s_cases h with ⟨rfl, rfl⟩ | ⟨g, cap, rfl, h1, h2, h3, h4, h5, h6⟩
  · rfl
  · unfold valOf
    simp only
    congr 1
    apply List.ext_getElem
    · simp
    · intro i a1 a2
      have := h5 i a2
      simp [this, U64, a2]

theorem u64s_some {w : World} {base : Nat} {v : Value} {xs : List Nat} (h : u64s w base v xs) (hne : xs ≠ []) : ∃ g c, v = .slice (some ⟨g, 0, none⟩) xs.length c := by
  rcases u64s_cases h with ⟨rfl, rfl⟩ | ⟨g, cap, rfl, _⟩
  · exact absurd rfl hne
  · exact ⟨_, _, rfl⟩

/-- what the loop of Gcd keeps -/
structure GcdI (w : World) (G : Nat) (x y : Value) (wr : World) (xs ys : List Nat) : Prop where
  below : Below w.heap.size w wr
  x : u64s wr w.heap.size x xs
  y : u64s wr w.heap.size y ys
  cx : canon xs
  cy : canon ys
  lx : xs.length ≤ 100
  ly : ys.length ≤ 100
  g : Nat.gcd (valw xs) (valw ys) = G

set_option maxRecDepth 100000 in
set_option maxHeartbeats 1000000 in
theorem Gcd_any (a b : ByteArray) (w : World) (ha : a.size ≤ maxLen) (hb : b.size ≤ maxLen) :
    Calls Tryz.prog 33 #[.string a, .string b] w fun e w' => e = .returned (.tuple #[.string (gcdS a b), .int .i64 (chk [a, b])]) ∧ Below w.heap.size w w' := by
  have HCK := Lib.hid (check_any w.heap.size 2 [a, b] (w.alloc (.cells #[.string a, .string b] 9)) (strs2 w a b _) (by simp; exact ⟨ha, hb⟩) (by simp))
  have HAL : Hid (Below w.heap.size w (w.alloc (.cells #[.string a, .string b] 9))) := (Below.refl _ _).alloc (Nat.le_refl _) _
  by_cases hc : chk [a, b] = 0
  · obtain ⟨n1, n2, s1, s2⟩ := chk2_ok hc
    have hS : gcdS a b = str (enc (Nat.gcd (val a) (val b))) := if_pos hc
    have HS := Lib.hid hS
    have N1 := Lib.hid n1
    have N2 := Lib.hid n2
    rw [hc] at HCK
    clear hS n1 n2
    rw [hc]
    clear hc
    generalize gcdS a b = S at *
    go_enter Tryz.func33, Tryz.ntmps33
    go_wp2_with (go_at_call 57; refine HCK.out.mono ?_; rintro e w' ⟨rfl, rfl⟩)
    refine (words_some w.heap.size a _ (by simp) (by omega)).mono ?_
    rintro e w1 ⟨⟨g, xc, xs, rfl, u1, r1⟩, b1⟩
    have hw1 : w.heap.size < w1.heap.size := by have := b1.size; simp at this; omega
    go_wp2_with (fail)
    refine (words_any w1.heap.size b _ (by omega) (by omega)).mono ?_
    rintro e w2 ⟨⟨v2, ys, rfl, u2, r2⟩, b2⟩
    obtain ⟨ya, yc, rfl⟩ := u64s_form u2
    have HU := Lib.hid (words2 (w := w) N1.out N2.out s1 s2 u1 r1 b2 u2 r2)
    have HB : Hid (Below w.heap.size w w2) := (HAL.out.trans (b1.mono (by simp))).trans (b2.mono (by omega))
    obtain ⟨G, hG⟩ : ∃ G, G = Nat.gcd (val a) (val b) := ⟨_, rfl⟩
    rw [← hG] at HS
    have HI : Hid (GcdI w G (.slice (some ⟨g, 0, none⟩) xs.length xc) (.slice ya ys.length yc) w2 xs ys) :=
      ⟨HB.out, HU.out.1, u64s_mono u2 (by omega), HU.out.2.1, HU.out.2.2.2.2.1, HU.out.2.2.2.1, HU.out.2.2.2.2.2.2.1, by rw [HU.out.2.2.1, HU.out.2.2.2.2.2.1, hG]⟩
    clear u1 u2 r1 r2 b1 b2 HAL hG HU HB
    go_wp2
    go_loopw [7, 8] (fun x y wr => ∃ xs ys, (∃ g c, x = .slice (some ⟨g, 0, none⟩) xs.length c) ∧ (∃ a c, y = .slice a ys.length c) ∧ Hid (GcdI w G x y wr xs ys)) (fun _ y wr => valOf wr y)
    case atStart => exact ⟨xs, ys, ⟨_, _, rfl⟩, ⟨_, _, rfl⟩, HI⟩
    case round =>
      clear HI
      obtain ⟨xs, ys, ⟨g, xc, rfl⟩, ⟨ya, yc, rfl⟩, HI⟩ := hrel
      have hxl := HI.out.lx
      have hyl := HI.out.ly
      by_cases hy0 : ys = []
      · subst hy0
        have hg := HI.out.g
        simp only [valw, Nat.gcd_zero_right] at hg
        have HT := Lib.hid (text_any _ _ xs wr HI.out.x HI.out.cx.1 (by omega))
        rw [hg] at HT
        have HT2 : Hid (Calls Tryz.prog 60 #[.slice (some ⟨g, 0, none⟩) xs.length xc] wr fun e w' => e = .returned (.string S) ∧ Below wr.heap.size wr w') := by
          rw [HS.out]; exact HT
        clear hg HT
        go_wp2_with (go_at_call 60; refine HT2.out.mono ?_; rintro e w5 ⟨rfl, hb5⟩)
        go_ret2
        exact ⟨rfl, HI.out.below.trans (hb5.mono HI.out.below.size)⟩
      · have hpos : 0 < ys.length := by
          cases ys with
          | nil => exact absurd rfl hy0
          | cons => simp
        have HDV := Lib.hid (divide_some xs ys wr g xc _ (u64s_mono HI.out.x (Nat.zero_le _)) (u64s_mono HI.out.y (Nat.zero_le _)) HI.out.cx.1 HI.out.cy hy0 (by omega) (by omega))
        have HY0 := Lib.hid hy0
        clear hy0
        go_wp2_with (fail)
        refine HDV.out.mono ?_
        rintro e w3 ⟨⟨vq, vr, qs, rs, rfl, q1, q2, q3, q4, q5, q6⟩, hb3⟩
        obtain ⟨qa, qc, rfl⟩ := u64s_form q1
        obtain ⟨ra, rc, rfl⟩ := u64s_form q4
        obtain ⟨g', yc', he⟩ := u64s_some HI.out.y HY0.out
        cases he
        have hvp := canon_pos ys HI.out.cy HY0.out
        have hlt : valw xs % valw ys < valw ys := Nat.mod_lt _ hvp
        have HI2 : Hid (GcdI w G (.slice (some ⟨g', 0, none⟩) ys.length yc) (.slice ra rs.length rc) w3 ys rs) :=
          ⟨HI.out.below.trans (hb3.mono HI.out.below.size), below_u64s HI.out.y hb3, u64s_mono q4 HI.out.below.size, HI.out.cy, q5, hyl,
            Nat.le_trans (canon_len_le q5 HI.out.cy.1 (by rw [q6]; exact Nat.le_of_lt hlt)) hyl, by rw [q6, Nat.gcd_comm, ← Nat.gcd_rec, Nat.gcd_comm]; exact HI.out.g⟩
        have HM : Hid (valOf w3 (.slice ra rs.length rc) < valOf wr (.slice (some ⟨g', 0, none⟩) ys.length yc)) := by
          show valOf _ _ < valOf _ _
          rw [valOf_eq q4, valOf_eq HI.out.y, q6]; exact hlt
        clear q1 q2 q3 q4 q5 q6 hb3 hlt hvp
        go_wp2
        go_roundw
        case rel => exact ⟨ys, rs, ⟨_, _, rfl⟩, ⟨_, _, rfl⟩, HI2⟩
        case measure => exact HM.out
  · have hS : gcdS a b = str [] := if_neg hc
    have HS := Lib.hid hS
    generalize gcdS a b = S at *
    generalize chk [a, b] = c at *
    have hc2 : (c != 0) = true := by simpa using hc
    clear hS hc
    go_enter Tryz.func33, Tryz.ntmps33
    go_wp2_with (go_at_call 57; refine HCK.out.mono ?_; rintro e w' ⟨rfl, rfl⟩)
    go_ret2
    exact ⟨by rw [HS.out]; rfl, HAL.out⟩
end Go.Proofs.YteggbpaljmopoaaGreat
/- Walks of naturals: Of, Int. -/
namespace Go.Proofs.YteggbpaljmopoaaGreat
open Go.RowKit BF

def ofS (n : Int) : ByteArray := if 0 ≤ n then str (enc n.toNat) else str []
def ofE (n : Int) : Int := if 0 ≤ n then 0 else 1

set_option maxRecDepth 100000 in
set_option maxHeartbeats 1000000 in
theorem Of_any (n : Int) (w : World) (h1 : -9223372036854775808 ≤ n) (h2 : n ≤ 9223372036854775807) :
    Calls Tryz.prog 62 #[.int .i64 n] w fun e w' => e = .returned (.tuple #[.string (ofS n), .int .i64 (ofE n)]) ∧ Below w.heap.size w w' := by
  by_cases h0 : 0 ≤ n
  · obtain ⟨m, rfl⟩ := Int.eq_ofNat_of_zero_le h0
    have hS : ofS (m : Int) = str (enc m) ∧ ofE (m : Int) = 0 := ⟨by unfold ofS; rw [if_pos h0]; rfl, if_pos h0⟩
    have HS := Lib.hid hS
    generalize ofS (m : Int) = S at *
    generalize ofE (m : Int) = E at *
    clear hS
    have hmk := mask32 m (by omega)
    go_enter Tryz.func62, Tryz.ntmps62
    have hrow : u64s (w.alloc (.cells #[.int .u64 ((m : Int) % 4294967296), .int .u64 ((m : Int) / 4294967296)] 141)) w.heap.size (.slice (some ⟨w.heap.size, 0, none⟩) 2 2) [m % B, m / B] := by
      have := World.ownsRow_lit (base := w.heap.size) (e := 141) (size := 1) w #[.int .u64 ((m : Int) % 4294967296), .int .u64 ((m : Int) / 4294967296)] 2 (Nat.le_refl _) (by unfold maxLen; omega) rfl
      unfold u64s
      have e : [m % B, m / B].map U64 = [.int .u64 ((m : Int) % 4294967296), .int .u64 ((m : Int) / 4294967296)] := by simp [U64, B]
      rw [e]
      exact this
    have HT := Lib.hid (text_any _ _ _ _ hrow (fun d hd => by simp at hd; rcases hd with rfl | rfl <;> unfold B <;> omega) (by simp))
    rw [show valw [m % B, m / B] = m by simp only [valw]; unfold B; omega] at HT
    have HT2 : Hid (Calls Tryz.prog 60 #[.slice (some ⟨w.heap.size, 0, none⟩) 2 2] (w.alloc (.cells #[.int .u64 ((m : Int) % 4294967296), .int .u64 ((m : Int) / 4294967296)] 141)) fun e w' => e = .returned (.string S) ∧ Below (w.heap.size + 1) (w.alloc (.cells #[.int .u64 ((m : Int) % 4294967296), .int .u64 ((m : Int) / 4294967296)] 141)) w') := by
      rw [HS.out.1]
      have := HT.out
      rw [World.size_alloc] at this
      exact this
    clear hrow HT
    go_wp2_with (fail)
    refine HT2.out.mono ?_
    rintro e w2 ⟨rfl, hb⟩
    go_wp2
    go_ret2
    exact ⟨by rw [HS.out.2]; rfl, ((Below.refl _ _).alloc (Nat.le_refl _) _).trans (hb.mono (by omega))⟩
  · have hS : ofS n = str [] ∧ ofE n = 1 := ⟨if_neg h0, if_neg h0⟩
    have HS := Lib.hid hS
    generalize ofS n = S at *
    generalize ofE n = E at *
    clear hS
    go_enter Tryz.func62, Tryz.ntmps62
    go_wp2
    go_ret2
    exact ⟨by rw [HS.out.1, HS.out.2]; rfl, Below.refl _ _⟩

set_option maxRecDepth 100000 in
set_option maxHeartbeats 1000000 in
theorem Int_any (s : ByteArray) (w : World) (hs : s.size ≤ maxLen) :
    Calls Tryz.prog 142 #[.string s] w fun e w' => e = .returned (.tuple #[.int .i64 (intV s), .bool (intOk s)]) ∧ w = w' := by
  have HNAT := Lib.hid (natural_any s w hs)
  unfold maxLen at hs
  by_cases h8 : natB s = true ∧ s.size ≤ 8
  · obtain ⟨hn, h8⟩ := h8
    rw [hn] at HNAT
    have hd8 : ¬ (8 : Int) < s.size := by omega
    have HV : Hid (intOk s = decide (val s ≤ 9223372036854775807)) := by
      show _ = _
      unfold intOk; rw [hn]; simp [h8]
    have HW : Hid (intV s = if intOk s then (val s : Int) else 0) := rfl
    clear hn
    have HL : Hid (s.data.toList.length = s.size) := rfl
    have HVAL : Hid (val s = dec (s.data.toList.take s.size)) := by
      show _ = _
      unfold val; rw [← HL.out, List.take_length]
    generalize intV s = V at *
    generalize intOk s = K at *
    generalize val s = va at *
    go_enter Tryz.func142, Tryz.ntmps142
    go_wp2_with (go_at_call 92; refine HNAT.out.mono ?_; rintro e w' ⟨rfl, rfl⟩)
    go_loop [4, 16] (fun u i => ∃ k x : Nat, k ≤ s.size ∧ i = .int .i64 (k : Int) ∧ u = .int .u64 (x : Int) ∧ Hid (x = dec (s.data.toList.take k))) (fun _ i => s.size - (intOf i).toNat)
    case atStart => exact ⟨0, 0, by omega, rfl, rfl, rfl⟩
    case round =>
      obtain ⟨k, x, hk, rfl, rfl, HX⟩ := hrel
      by_cases hkn : k < s.size
      · have hxb : x < 72057594037927936 := by
          have := dec_take_lt s.data.toList k (by rw [HL.out]; omega)
          rw [← HX.out] at this
          exact Nat.lt_of_lt_of_le this (Nat.le_trans (Nat.pow_le_pow_right (by omega) (show k ≤ 7 by omega)) (by decide))
        have hbb := (s[k]).toNat_lt
        have hst := int_step s.data.toList k (by rw [HL.out]; exact hkn)
        rw [← HX.out] at hst
        have HST : Hid (x * 256 + s[k].toNat = dec (s.data.toList.take (k + 1))) := by
          show _ = _
          rw [hst, Nat.mul_comm]; rfl
        clear hst
        have hor := u64_or_nat (x * 256) (s[k].toNat) (by omega) (by omega)
        rw [or_byte_low x _ hbb] at hor
        have hor2 : bits .or .u64 ((x : Int) * 256) ((s[k].toNat : Nat) : Int) = (x : Int) * 256 + s[k].toNat := by
          have e : ((x * 256 : Nat) : Int) = (x : Int) * 256 := by simp
          rw [← e, hor]; simp
        clear hor
        go_wp2
        go_round
        case rel => exact ⟨k + 1, x * 256 + s[k].toNat, by omega, by go_num, by go_num, HST⟩
        case measure => simp [intOf]; omega
      · obtain rfl : k = s.size := by omega
        rw [← HX.out] at HVAL
        have HVA := HVAL
        by_cases hbig : x ≤ 9223372036854775807
        · have hb2 : ¬ (9223372036854775807 : Int) < x := by omega
          have hK : K = true := by rw [HV.out, HVA.out]; simpa using hbig
          have HK := Lib.hid hK
          clear hK
          go_wp2
          go_ret2
          refine ⟨?_, rfl⟩
          rw [HW.out, HK.out, HVA.out]; rfl
        · have hb2 : (9223372036854775807 : Int) < x := by omega
          have hK : K = false := by rw [HV.out, HVA.out]; simpa using hbig
          have HK := Lib.hid hK
          clear hK
          go_wp2
          go_ret2
          refine ⟨?_, rfl⟩
          rw [HW.out, HK.out]; rfl
  · have hK : intOk s = false := by
      unfold intOk
      rw [Bool.eq_false_iff]
      intro h
      simp at h
      exact h8 ⟨h.1.1, h.1.2⟩
    have HK : Hid (intV s = 0 ∧ intOk s = false) := ⟨by unfold intV; rw [hK]; rfl, hK⟩
    clear hK
    generalize intV s = V at *
    generalize intOk s = K at *
    cases hn : natB s with
    | false =>
      rw [hn] at HNAT
      clear hn
      go_enter Tryz.func142, Tryz.ntmps142
      go_wp2_with (go_at_call 92; refine HNAT.out.mono ?_; rintro e w' ⟨rfl, rfl⟩)
      go_ret2
      exact ⟨by rw [HK.out.1, HK.out.2]; rfl, rfl⟩
    | true =>
      rw [hn] at HNAT
      have hd8 : (8 : Int) < s.size := by
        rcases Nat.lt_or_ge 8 s.size with h | h
        · omega
        · exact absurd ⟨hn, h⟩ h8
      clear hn h8
      go_enter Tryz.func142, Tryz.ntmps142
      go_wp2_with (go_at_call 92; refine HNAT.out.mono ?_; rintro e w' ⟨rfl, rfl⟩)
      go_ret2
      exact ⟨by rw [HK.out.1, HK.out.2]; rfl, rfl⟩
end Go.Proofs.YteggbpaljmopoaaGreat
/- Walks of naturals: Mul. -/
namespace Go.Proofs.YteggbpaljmopoaaGreat
open Go.RowKit BF

/-- a cell of a row that lies below another block -/
theorem cells_kept {w2 : World} {base gl n : Nat} {v : Option Addr} {c : Nat} {xs : List Nat} (h : u64s w2 base (.slice v n c) xs) (hl : xs.length = n) (hb : w2.heap.size ≤ gl) :
    ∀ wr, w2.grownBy wr (some gl) → ∀ j, j < n → ∃ g, v = some ⟨g, 0, none⟩ ∧ g < gl ∧ wr.cell? ⟨g, j, none⟩ = some (.int .u64 ((xs.getD j 0 : Nat) : Int)) := by
  subst hl
  rcases u64s_cases h with ⟨e1, rfl⟩ | ⟨g, cap, e1, a1, a2, a3, a4, a5, a6⟩
  · intro wr _ j hj; simp at hj
  · cases e1
    intro wr hg j hj
    exact ⟨g, rfl, by omega, hg.cell (a5 j hj) (by simp; omega)⟩

set_option maxRecDepth 100000 in
set_option maxHeartbeats 1000000 in
theorem Mul_any (a b : ByteArray) (w : World) (ha : a.size ≤ maxLen) (hb : b.size ≤ maxLen) :
    Calls Tryz.prog 206 #[.string a, .string b] w fun e w' => e = .returned (.tuple #[.string (mulS a b), .int .i64 (mulE a b)]) ∧ Below w.heap.size w w' := by
  obtain ⟨i0, hi, hz0, hz1, hz2⟩ := info_parts info64
  have HCK := Lib.hid (check_any w.heap.size 2 [a, b] (w.alloc (.cells #[.string a, .string b] 9)) (strs2 w a b _) (by simp; exact ⟨ha, hb⟩) (by simp))
  have HAL : Hid (Below w.heap.size w (w.alloc (.cells #[.string a, .string b] 9))) := (Below.refl _ _).alloc (Nat.le_refl _) _
  by_cases hc : chk [a, b] = 0
  · obtain ⟨n1, n2, s1, s2⟩ := chk2_ok hc
    have hS : mulS a b = shortS (val a * val b) ∧ mulE a b = shortE (val a * val b) := ⟨if_pos hc, if_pos hc⟩
    have HS := Lib.hid hS
    have N1 := Lib.hid n1
    have N2 := Lib.hid n2
    rw [hc] at HCK
    clear hS n1 n2 hc
    generalize mulS a b = S at *
    generalize mulE a b = E at *
    go_enter Tryz.func206, Tryz.ntmps206
    go_wp2_with (go_at_call 57; refine HCK.out.mono ?_; rintro e w' ⟨rfl, rfl⟩)
    refine (words_any w.heap.size a _ (by simp) (by omega)).mono ?_
    rintro e w1 ⟨⟨v1, xs, rfl, u1, r1⟩, b1⟩
    obtain ⟨xa, xc, rfl⟩ := u64s_form u1
    have hw1 : w.heap.size < w1.heap.size := by have := b1.size; simp at this; omega
    go_wp2_with (fail)
    refine (words_any w1.heap.size b _ (by omega) (by omega)).mono ?_
    rintro e w2 ⟨⟨v2, ys, rfl, u2, r2⟩, b2⟩
    obtain ⟨ya, yc, rfl⟩ := u64s_form u2
    have HU := Lib.hid (words2 (w := w) N1.out N2.out s1 s2 u1 r1 b2 u2 r2)
    have U2 := Lib.hid u2
    have hxl := HU.out.2.2.2.1
    have hyl := HU.out.2.2.2.2.2.2.1
    have HB : Hid (Below w.heap.size w w2) := (HAL.out.trans (b1.mono (by simp))).trans (b2.mono (by omega))
    have hw2 : w.heap.size ≤ w2.heap.size := HB.out.size
    have HXV : Hid (valw xs = val a) := HU.out.2.2.1
    have HYV : Hid (valw ys = val b) := HU.out.2.2.2.2.2.1
    have HX : Hid (digs xs) := HU.out.2.1.1
    have HY : Hid (digs ys) := HU.out.2.2.2.2.1.1
    clear u1 u2 r1 r2 b1 b2 HAL
    generalize hn : xs.length = n at *
    generalize hm : ys.length = m at *
    have HN := Lib.hid hn
    have HM := Lib.hid hm
    have HXC := Lib.hid (cells_kept HU.out.1 hn (Nat.le_refl _))
    have HYC := Lib.hid (cells_kept U2.out hm (Nat.le_refl _))
    clear hn hm HU U2
    have hL : ((n : Int) + m + 1) = ((n + m + 1 : Nat) : Int) := by omega
    have HLI := Lib.hid hL
    clear hL
    go_wp2_with (at_make; refine wpList_make_full _ rfl _ _ 98 rfl w.heap.size 141 i0 (.int .u64 0) 1 Tryz.underlying98 hi hz0 hz1 .i64 .i64 _ _ (n + m + 1) rfl rfl HLI.out HLI.out (by rw [hz2]; omega) (by unfold maxLen; omega) hw2 ?_; intro w3 hown1 hgrow1)
    rw [madeU64] at hown1
    have HR3 : Hid (row64 w3 w.heap.size w2.heap.size (n + m + 1) (n + m + 1) (List.replicate (n + m + 1) 0)) := hown1
    have HG3 : Hid (w2.grownBy w3 (some w2.heap.size)) := ⟨hgrow1.os, hgrow1.tape, hgrow1.output, hgrow1.size, fun k hk _ => hgrow1.block k hk (by simp)⟩
    clear hown1 hgrow1
    generalize hgl : w2.heap.size = gl at *
    have HGL := Lib.hid hgl
    clear hgl
    go_loopw [35] (fun i wr => ∃ (k : Nat) (ls : List Nat), k ≤ n ∧ i = .int .i64 (k : Int) ∧ Hid (row64 wr w.heap.size gl (n + m + 1) (n + m + 1) ls) ∧ Hid (MulRow xs ys ls k) ∧ Hid (w2.grownBy wr (some gl))) (fun i _ => n - (intOf i).toNat)
    case atStart => exact ⟨0, _, by omega, rfl, HR3, by have := mul_start xs ys; rw [HN.out, HM.out] at this; exact this, HG3⟩
    case round =>
      clear HR3 HG3
      obtain ⟨k, ls, hk, rfl, HR, HL, HG⟩ := hrel
      by_cases hkn : k < n
      · obtain ⟨gx, rfl, hgx, hcx⟩ := HXC.out wr HG.out k hkn
        have hxb := digs_getD HX.out k
        unfold B at hxb
        have HIN := Lib.hid (mul_in_start HL.out)
        have hkx : Hid (k < xs.length) := by rw [HN.out]; exact hkn
        obtain ⟨x, hxd⟩ : ∃ x, x = xs.getD k 0 := ⟨_, rfl⟩
        rw [← hxd] at hcx hxb
        have HXD := Lib.hid hxd
        clear hxd HL
        obtain ⟨wo, hwo⟩ : ∃ wo : World, wo = wr := ⟨_, rfl⟩
        subst hwo
        go_wp2
        go_loopw [12, 42] (fun o j wr => ∃ (q ov : Nat) (ls : List Nat), q ≤ m ∧ o = .int .u64 (ov : Int) ∧ j = .int .i64 (q : Int) ∧ ov < 4294967296 ∧ Hid (row64 wr w.heap.size gl (n + m + 1) (n + m + 1) ls) ∧ Hid (MulIn xs ys ls k q ov) ∧ Hid (w2.grownBy wr (some gl))) (fun _ j _ => m - (intOf j).toNat)
        case atStart => exact ⟨0, 0, ls, by omega, rfl, rfl, by omega, HR, HIN, HG⟩
        case round =>
          clear HR HG HIN
          obtain ⟨q, ov, ls, hq, rfl, rfl, hov, HR, HIN, HG⟩ := hrel
          by_cases hqm : q < m
          · obtain ⟨gy, rfl, hgy, hcy⟩ := HYC.out wr HG.out q hqm
            have hyb := digs_getD HY.out q
            unfold B at hyb
            have hcl := row64_cell HR.out (k + q) (by omega)
            have hfl := row64_frozen HR.out (k + q)
            have hlb := digs_getD HIN.out.2.1 (k + q)
            unfold B at hlb
            have hst := mul_in_step HIN.out hkx.out (by rw [HM.out]; exact hqm) HX.out HY.out
            have hmb := mul_bound (digs_getD HX.out k) (digs_getD HY.out q)
            rw [← HXD.out] at hst hmb
            have HST := Lib.hid hst
            clear hst
            generalize ys.getD q 0 = y at *
            generalize ls.getD (k + q) 0 = l at *
            have hpb : (x : Int) * y ≤ 18446744065119617025 := by
              have : ((x * y : Nat) : Int) = (x : Int) * y := by simp
              omega
            have hp0 : (0 : Int) ≤ (x : Int) * y := Int.mul_nonneg (by omega) (by omega)
            clear hmb
            have hmk := mask32i ((ov : Int) + ((l : Int) + (x : Int) * y)) (by omega) (by omega)
            go_wp2
            have hpn : ((x * y : Nat) : Int) = (x : Int) * y := by simp
            generalize hpp : x * y = p at *
            have R := row64_set HR.out (k + q) (((ov : Int) + ((l : Int) + (x : Int) * y)) % 4294967296) ((ov + (l + p)) % B) (by unfold B; omega)
            go_roundw
            case rel => exact ⟨q + 1, (ov + (l + p)) / B, _, by omega, by congr 1; unfold B; omega, by go_num, by unfold B; omega, R.1, HST.out, grownBy_trans HG.out R.2⟩
            case measure => simp [intOf]; omega
          · obtain rfl : q = m := by omega
            have hE := mul_row_end (by rw [HM.out]; exact HIN.out) hkx.out HX.out HY.out
            rw [HM.out] at hE
            have hcl := row64_cell HR.out (k + q) (by omega)
            have hfl := row64_frozen HR.out (k + q)
            have hlb := hE.1
            unfold B at hlb
            have HE := Lib.hid hE.2
            clear hE
            generalize ls.getD (k + q) 0 = l at *
            go_wp2
            have R := row64_set HR.out (k + q) ((l : Int) + ov) (l + ov) (by omega)
            go_roundw
            case rel => exact ⟨k + 1, _, by omega, by go_num, R.1, HE.out, grownBy_trans HG.out R.2⟩
            case measure => simp [intOf]; omega
      · obtain rfl : k = n := by omega
        have he := mul_end (by rw [HN.out]; exact HL.out)
        rw [HXV.out, HYV.out] at he
        have hll : ls.length = k + m + 1 := row64_len HR.out
        have HSH := Lib.hid (short_any w.heap.size (.slice (some ⟨gl, 0, none⟩) (k + m + 1) (k + m + 1)) ls wr (row64_to HR.out) he.1 (by omega))
        rw [he.2] at HSH
        clear he hll
        have HS2 : Hid (shortS (val a * val b) = S ∧ shortE (val a * val b) = E) := ⟨HS.out.1.symm, HS.out.2.symm⟩
        clear HS
        generalize shortS (val a * val b) = S' at *
        generalize shortE (val a * val b) = E' at *
        go_wp2_with (go_at_call 137; refine HSH.out.mono ?_; rintro e w3 ⟨rfl, hb3⟩)
        go_ret2
        have hBr : Below w.heap.size w wr := HB.out.grown HG.out (by rw [HGL.out]; exact hw2) (fun j hj => by cases hj; exact hw2)
        exact ⟨by rw [← HS2.out.1, ← HS2.out.2]; rfl, hBr.trans (hb3.mono hBr.size)⟩
  · have hS : mulS a b = str [] ∧ mulE a b = chk [a, b] := ⟨if_neg hc, if_neg hc⟩
    have HS := Lib.hid hS
    generalize mulS a b = S at *
    generalize mulE a b = E at *
    generalize chk [a, b] = c at *
    have hc2 : (c != 0) = true := by simpa using hc
    clear hS hc
    go_enter Tryz.func206, Tryz.ntmps206
    go_wp2_with (go_at_call 57; refine HCK.out.mono ?_; rintro e w' ⟨rfl, rfl⟩)
    go_ret2
    exact ⟨by rw [HS.out.1, HS.out.2]; rfl, HAL.out⟩
end Go.Proofs.YteggbpaljmopoaaGreat
