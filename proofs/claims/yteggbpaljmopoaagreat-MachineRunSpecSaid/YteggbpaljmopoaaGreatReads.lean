/- How arguments are read, and what is left of them. Conditions: those that each theorem states. -/
import Derived.Test.YteggbpaljmopoaaGreatNatsA
import Derived.ChangeSame
import Derived.Deep.Slices
import Derived.Carry
import Derived.JoinedTies
import Derived.ProofKit
set_option linter.unusedVariables false
set_option linter.unusedSimpArgs false
/- Readers: how plain data lies in memory, and how arguments are opened to it. -/
namespace Go.Proofs.YteggbpaljmopoaaGreat
open Go.RowKit Go.ChangeShapes Go.WideShapes Go.Deep BF

/-- how data of a type lies in some cells -/
structure Rd (α : Type) where
  size : Nat
  vals : World → α → List Value → Prop

def Rd.Long {α : Type} (R : Rd α) : Prop := ∀ w a cs, R.vals w a cs → cs.length = R.size
def Rd.Stable {α : Type} (R : Rd α) : Prop := ∀ w w' a cs, R.vals w a cs → Below w.heap.size w w' → R.vals w' a cs

def Rd.int (k : IntKind) : Rd Int := ⟨1, fun _ n cs => cs = [.int k n] ∧ (Lit.int k n).wf = true⟩
def Rd.bool : Rd Bool := ⟨1, fun _ b cs => cs = [.bool b]⟩
def Rd.str : Rd ByteArray := ⟨1, fun _ s cs => cs = [.string s] ∧ s.size ≤ maxLen⟩
def Rd.unit : Rd Unit := ⟨0, fun _ _ cs => cs = []⟩
def Rd.pair {α β : Type} (R : Rd α) (S : Rd β) : Rd (α × β) := ⟨R.size + S.size, fun w x cs => ∃ c1 c2, cs = c1 ++ c2 ∧ R.vals w x.1 c1 ∧ S.vals w x.2 c2⟩
def Rd.map {α β : Type} (R : Rd α) (f : α → β) : Rd β := ⟨R.size, fun w b cs => ∃ a, f a = b ∧ R.vals w a cs⟩

/-- a slice of such data -/
def SliceIs {α : Type} (R : Rd α) (w : World) (v : Value) (l : List α) : Prop :=
  (∃ p cap, v = .slice p 0 cap ∧ l = []) ∨
  ∃ g o cap, v = .slice (some ⟨g, o, none⟩) l.length cap ∧ l ≠ [] ∧ l.length ≤ cap ∧ cap ≤ maxLen ∧ g < w.heap.size ∧
    ∀ i, (h : i < l.length) → ∃ cs, R.vals w l[i] cs ∧ ∀ j, j < R.size → w.cell? ⟨g, o + i * R.size + j, none⟩ = cs[j]?
def Rd.slice {α : Type} (R : Rd α) : Rd (List α) := ⟨1, fun w l cs => ∃ v, cs = [v] ∧ SliceIs R w v l⟩

theorem Rd.int_long {k} : (Rd.int k).Long := fun _ _ _ h => by rw [h.1]; rfl
theorem Rd.bool_long : Rd.bool.Long := fun _ _ _ h => by rw [show _ = _ from h]; rfl
theorem Rd.str_long : Rd.str.Long := fun _ _ _ h => by rw [h.1]; rfl
theorem Rd.unit_long : Rd.unit.Long := fun _ _ _ h => by rw [show _ = _ from h]; rfl
theorem Rd.pair_long {α β : Type} {R : Rd α} {S : Rd β} (h : R.Long) (k : S.Long) : (R.pair S).Long := fun w x cs ⟨c1, c2, e, h1, h2⟩ => by
  rw [e, List.length_append, h _ _ _ h1, k _ _ _ h2]; rfl
theorem Rd.map_long {α β : Type} {R : Rd α} (h : R.Long) (f : α → β) : (R.map f).Long := fun w x cs ⟨a, _, h1⟩ => h _ _ _ h1
theorem Rd.slice_long {α : Type} {R : Rd α} : R.slice.Long := fun w x cs ⟨v, e, _⟩ => by rw [e]; rfl

theorem Rd.int_stable {k} : (Rd.int k).Stable := fun _ _ _ _ h _ => h
theorem Rd.bool_stable : Rd.bool.Stable := fun _ _ _ _ h _ => h
theorem Rd.str_stable : Rd.str.Stable := fun _ _ _ _ h _ => h
theorem Rd.unit_stable : Rd.unit.Stable := fun _ _ _ _ h _ => h
theorem Rd.pair_stable {α β : Type} {R : Rd α} {S : Rd β} (h : R.Stable) (k : S.Stable) : (R.pair S).Stable := fun w w' x cs ⟨c1, c2, e, h1, h2⟩ hb => ⟨c1, c2, e, h _ _ _ _ h1 hb, k _ _ _ _ h2 hb⟩
theorem Rd.map_stable {α β : Type} {R : Rd α} (h : R.Stable) (f : α → β) : (R.map f).Stable := fun w w' x cs ⟨a, e, h1⟩ hb => ⟨a, e, h _ _ _ _ h1 hb⟩
theorem SliceIs.under {α : Type} {R : Rd α} (hs : R.Stable) {w w' : World} {v : Value} {l : List α} (h : SliceIs R w v l) (hb : Below w.heap.size w w') : SliceIs R w' v l := by
  rcases h with h | ⟨g, o, cap, e, h1, h2, h3, h4, h5⟩
  · exact .inl h
  · refine .inr ⟨g, o, cap, e, h1, h2, h3, Nat.lt_of_lt_of_le h4 hb.size, fun i hi => ?_⟩
    obtain ⟨cs, k1, k2⟩ := h5 i hi
    exact ⟨cs, hs _ _ _ _ k1 hb, fun j hj => (hb.cell (p := ⟨g, _, none⟩) h4).trans (k2 j hj)⟩
theorem Rd.slice_stable {α : Type} {R : Rd α} (hs : R.Stable) : R.slice.Stable := fun w w' x cs ⟨v, e, h⟩ hb => ⟨v, e, h.under hs hb⟩

/-- whatever is read at a type is such data -/
def Opens (P : Program) {α : Type} (R : Rd α) (t : TypeId) : Prop :=
  ∀ {H : Type} {enc : TypeId × Value → H} {w : World} {fuel : Nat} {cs : List Value} {x : DataW H × List MemPlace},
    DataW.trod enc P w 0 (fun _ => true) true fuel t cs = some x → ∃ a, R.vals w a cs

theorem opens_int {P : Program} {t : TypeId} {k : IntKind} (ht : P.underlying t = some (.int k)) : Opens P (Rd.int k) t := by
  intro H enc w fuel cs x h
  obtain ⟨m, rfl, rfl, hw⟩ := DataW.trod_int ht h
  exact ⟨m, rfl, hw⟩
theorem opens_bool {P : Program} {t : TypeId} (ht : P.underlying t = some .bool) : Opens P Rd.bool t := by
  intro H enc w fuel cs x h
  obtain ⟨b, rfl, _⟩ := DataW.trod_bool ht h
  exact ⟨b, rfl⟩
theorem opens_str {P : Program} {t : TypeId} (ht : P.underlying t = some .string) : Opens P Rd.str t := by
  intro H enc w fuel cs x h
  obtain ⟨s, rfl, _, hs⟩ := DataW.trod_string ht h
  exact ⟨s, rfl, hs⟩

theorem lt_of_cell {w : World} {a : Addr} {v : Value} (h : w.cell? a = some v) : a.block < w.heap.size ∧ a.spot = none := by
  unfold World.cell? at h
  split at h
  · rename_i h1
    split at h
    · cases h
    · rename_i h2
      exact ⟨(Array.getElem?_eq_some_iff.1 h1).1, by simpa using h2⟩
  · cases h

theorem opens_slice {P : Program} {α : Type} {R : Rd α} {t e : TypeId} (ht : P.underlying t = some (.slice e)) (hc : P.cellsOf e = R.size) (hpos : 0 < R.size) (hl : R.Long) (he : Opens P R e) : Opens P R.slice t := by
  intro H enc w fuel cs x h
  rcases open_slice ht h with ⟨rfl, _⟩ | ⟨a, len, cap, m, n, D, Pl, rfl, _, hle, hm, hmm, _, hi⟩
  · exact ⟨[], _, rfl, .inl ⟨_, _, rfl, rfl⟩⟩
  · simp only [if_true] at hmm
    have hch : ∀ i, i < len → ∃ y : α × List Value, R.vals w y.1 y.2 ∧ ∀ j, j < R.size → w.cell? ((a.add (i * R.size)).add j) = y.2[j]? := by
      intro i hil
      obtain ⟨cs', h1, h2⟩ := hi i (by omega)
      obtain ⟨y, hy⟩ := he h2
      obtain ⟨_, _, h3⟩ := World.cells?_some h1
      rw [hc] at h3
      exact ⟨(y, cs'), hy, h3⟩
    by_cases h0 : len = 0
    · subst h0
      exact ⟨[], _, rfl, .inl ⟨_, _, rfl, rfl⟩⟩
    obtain ⟨y0, hy0⟩ := hch 0 (by omega)
    have : Inhabited (α × List Value) := ⟨y0⟩
    obtain ⟨F, hF⟩ := choose_lt hch
    have hll : ((List.range len).map fun i => (F i).1).length = len := by simp
    have h00 := (hF 0 (by omega)).2 0 hpos
    have hlen0 := hl _ _ _ (hF 0 (by omega)).1
    rw [List.getElem?_eq_getElem (by omega)] at h00
    obtain ⟨hb, hsp⟩ := lt_of_cell h00
    rw [add_add, Nat.zero_mul] at hb hsp
    have e0 : a.add (0 + 0) = a := by simp [Addr.add]
    rw [e0] at hb hsp
    obtain ⟨g, o, sp⟩ := a
    dsimp only at hb hsp
    subst hsp
    have ea : ∀ o k, (⟨g, o, none⟩ : Addr).add k = ⟨g, o + k, none⟩ := fun o k => by
      unfold Addr.add
      split
      · rename_i h; subst h; rfl
      · rfl
    refine ⟨(List.range len).map fun i => (F i).1, _, rfl, .inr ⟨g, o, cap, by rw [hll], ?_, by rw [hll]; exact hle, hm, hb, fun i hil => ?_⟩⟩
    · intro h9
      rw [h9] at hll
      exact h0 hll.symm
    · rw [hll] at hil
      refine ⟨(F i).2, ?_, fun j hj => ?_⟩
      case refine_2 =>
        have := (hF i hil).2 j hj
        rw [ea, ea] at this
        exact this
      simpa using (hF i hil).1

/-- the fields of a struct, one after the other -/
def FOpens (P : Program) {α : Type} (R : Rd α) (fs : List Field) (off : Nat) : Prop :=
  ∀ {H : Type} {enc : TypeId × Value → H} {w : World} {n : Nat} {cs : List Value} {ys : List (DataW H × List MemPlace)},
    (∀ (i : Nat) (f : Field), fs[i]? = some f → DataW.trod enc P w 0 (fun _ => true) true n f.type ((cs.drop f.offset).take (P.cellsOf f.type)) = ys[i]?) → fs.length = ys.length → cs.length = off + R.size → ∃ a, R.vals w a (cs.drop off)
theorem fopens_nil {P : Program} {off : Nat} : FOpens P Rd.unit [] off := by
  intro H enc w n cs ys _ _ h
  exact ⟨(), by show _ = _; rw [List.drop_eq_nil_iff]; show cs.length ≤ off; rw [h]; exact Nat.le_refl _⟩
theorem fopens_cons {P : Program} {α β : Type} {R : Rd α} {S : Rd β} {f : Field} {fs : List Field} {off : Nat} (ho : f.offset = off) (hc : P.cellsOf f.type = R.size) (hR : Opens P R f.type) (hS : FOpens P S fs (off + R.size)) : FOpens P (R.pair S) (f :: fs) off := by
  intro H enc w n cs ys h hl hlen
  obtain ⟨y, ys, rfl⟩ : ∃ y ys', ys = y :: ys' := by
    cases ys with
    | nil => simp at hl
    | cons y ys => exact ⟨y, ys, rfl⟩
  have h0 := h 0 f rfl
  rw [ho, hc] at h0
  obtain ⟨a, ha⟩ := hR h0
  obtain ⟨b, hb⟩ := hS (cs := cs) (ys := ys) (n := n) (enc := enc) (w := w) (fun i g hg => by simpa using h (i + 1) g (by simpa using hg)) (by simpa using hl) (by rw [hlen, Nat.add_assoc]; rfl)
  exact ⟨(a, b), _, _, by rw [← List.drop_drop]; exact (List.take_append_drop _ _).symm, ha, hb⟩
theorem opens_struct {P : Program} {α β : Type} {R : Rd α} {t : TypeId} {fs : Array Field} (ht : P.underlying t = some (.struct fs)) (hc : P.cellsOf t = R.size) (hf : FOpens P R fs.toList 0) (f : α → β) : Opens P (R.map f) t := by
  intro H enc w fuel cs x h
  obtain ⟨xs, n, _, _, hl, hlen, hg⟩ := DataW.trod_struct ht h
  obtain ⟨a, ha⟩ := hf (cs := cs) (ys := xs) (n := n) (enc := enc) (w := w) (fun i f hf => hg i f (by simpa using hf)) (by simp [hlen]) (by rw [hl, hc, Nat.zero_add])
  rw [List.drop_zero] at ha
  exact ⟨f a, a, rfl, ha⟩

/-- an argument opened -/
theorem open_arg {P : Program} {α : Type} {R : Rd α} {t : TypeId} (h : Opens P R t) {H : Type} {enc : TypeId × Value → H} {w : World} {v : Value} {d : DataW H} {p : List MemPlace} (ht : DataW.Trod enc P w 0 (fun _ => true) true t v d p) : ∃ a, R.vals w a v.cells.toList := by
  obtain ⟨n, hn⟩ := ht
  exact h hn
theorem arg_int {P : Program} {t : TypeId} {k : IntKind} (ht : P.underlying t = some (.int k)) {w : World} {v : Value} (hv : Value.okWide P w .any 0 t v) {a : Int} (h : (Rd.int k).vals w a v.cells.toList) : v = .int k a ∧ (Lit.int k a).wf = true := by
  obtain ⟨n, rfl⟩ := okWide_int ht hv
  obtain ⟨h1, h2⟩ := h
  simp [Value.cells] at h1
  subst h1
  exact ⟨rfl, h2⟩
theorem arg_slice {P : Program} {t e : TypeId} (ht : P.underlying t = some (.slice e)) {α : Type} {R : Rd α} {w : World} {v : Value} (hv : Value.okWide P w .any 0 t v) {a : List α} (h : R.slice.vals w a v.cells.toList) : SliceIs R w v a := by
  obtain ⟨p, len, cap, rfl⟩ := okWide_slice ht hv
  obtain ⟨u, h1, h2⟩ := h
  simp [Value.cells] at h1
  subst h1
  exact h2
theorem arg_struct {P : Program} {t : TypeId} {fs : Array Field} (ht : P.underlying t = some (.struct fs)) {w : World} {v : Value} (hv : Value.okWide P w .any 0 t v) : v = .agg v.cells.toList.toArray := by
  obtain ⟨cs, rfl, _⟩ := okWide_struct ht hv
  simp [Value.cells]
end Go.Proofs.YteggbpaljmopoaaGreat
/- The last step of each statement: a call that returns true and leaves all that existed as it was. -/
namespace Go.Proofs.YteggbpaljmopoaaGreat
open Go.RowKit Go.ChangeShapes Go.WideShapes Go.Deep BF

section
variable {H : Type} {enc : TypeId × Value → H} {P : Program}
theorem post_of_below {f : Func} {s : ChangeSpec} {apart fresh handsOn again : Bool} {W W' : World} {args : Array Value} {v : Value} {ds gs : List (DataW H)} {before pa pv : List MemPlace}
    (hW : DataW.Whole enc P f.params.toList s.vars apart W args.toList ds gs before)
    (hres : ∀ (b : Nat) (sp : Nat → Bool) (hd : Bool), DataW.TrodAll enc P W' b sp hd f.resultTypes.toList (v.resultList f.resultTypes.size) (s.fn H (ds ++ gs)).results [])
    (hargs : ∀ sp : Nat → Bool, (∀ p ∈ before, sp p.block = true) → DataW.TrodAll enc P W' 0 sp true f.params.toList args.toList (s.fn H (ds ++ gs)).args pa)
    (hvars : ∀ sp : Nat → Bool, (∀ p ∈ before, sp p.block = true) → DataW.TrodVars enc P W' sp s.vars (s.fn H (ds ++ gs)).vars pv)
    (hps : before = pa ++ pv) (hb : Below W.heap.size W W')
    (hok : ∀ (j : Nat) (t : TypeId) (r : Value), f.resultTypes[j]? = some t → (v.resultList f.resultTypes.size)[j]? = some r → Value.okWide P W' .any 0 t r) :
    s.post enc P f apart fresh handsOn again W args v W' := by
  have hlt : ∀ p ∈ before, p.block < W.heap.size := fun p hp => hW.lt p hp
  have hold : ∀ p ∈ before, (fun b => decide (b < W.heap.size)) p.block = true := fun p hp => by simpa using hlt p hp
  refine ⟨ds, gs, before, [], pa, pv, hW, hres _ _ _, hargs _ hold, hvars _ hold, World.keptBut_mono (fun p hp => ⟨hp, ?_⟩) (hb.frame (· ∈ before)), fun _ => ?_⟩
  · rw [hps, List.mem_append] at hp
    exact Or.inr hp
  · obtain ⟨_, _, _, _, _, hz, hn⟩ := hW
    refine ⟨hok, _, _, ([] ++ pa) ++ pv, ⟨[] ++ pa, pv, trodAll_append (hargs _ (fun _ _ => rfl)) (hres _ _ _), hvars _ (fun _ _ => rfl), rfl, ?_, ?_⟩, ?_⟩
    · intro b off hp
      have hin : MemPlace.cell b off ∈ before := by rw [hps]; simpa using hp
      rw [hb.frozen (hlt _ hin)]
      exact hz b off hin
    · intro ha
      have := hn ha
      rw [hps] at this
      simpa using this
    · intro p hp _
      rw [hps]
      simpa using hp

theorem trodAll_stays {W W' : World} {sp : Nat → Bool} (hl : laidOutB P = true) (hb : Below W.heap.size W W') : ∀ {ts : List TypeId} {vs : List Value} {ds : List (DataW H)} {ps : List MemPlace},
    (∀ t ∈ ts, P.readableRec t = true ∧ t < P.types.size) → DataW.TrodAll enc P W 0 (fun _ => true) true ts vs ds ps → (∀ p ∈ ps, p.block < W.heap.size) → (∀ p ∈ ps, sp p.block = true) → DataW.TrodAll enc P W' 0 sp true ts vs ds ps
  | [], _, _, _, _, h, _, _ => by
    obtain ⟨rfl, rfl, rfl⟩ := trodAll_nil h
    exact trodAll_mk0
  | t :: ts, _, _, _, hr, h, hlt, hs => by
    obtain ⟨v, vs1, d, ds1, a, b, rfl, rfl, rfl, h1, h2⟩ := trodAll_cons h
    have hr0 := hr t (by simp)
    exact ⟨a, b, WideElems.Trod_stays hl hr0.1 hr0.2 h1 (fun x hx => hb.same (hlt x (by simp [hx]))) (fun x hx => hs x (by simp [hx])),
      trodAll_stays hl hb (fun t ht => hr t (by simp [ht])) h2 (fun x hx => hlt x (by simp [hx])) (fun x hx => hs x (by simp [hx])), rfl⟩

theorem law_post {f : Func} {s : ChangeSpec} {apart fresh handsOn again : Bool} {W W' : World} {args : Array Value} {ds gs : List (DataW H)} {before : List MemPlace} {tb : TypeId} (hl : laidOutB P = true)
    (hr : ∀ t ∈ f.params.toList, P.readableRec t = true ∧ t < P.types.size) (hv : s.vars = []) (ht : f.resultTypes = #[tb]) (htb : P.underlying tb = some .bool)
    (hs : ∀ ds : List (DataW H), ds.length = f.params.toList.length → (s.fn H ds).results = [.lit (.bool true)] ∧ (s.fn H ds).args = ds ∧ (s.fn H ds).vars = [])
    (hW : DataW.Whole enc P f.params.toList s.vars apart W args.toList ds gs before) (hb : Below W.heap.size W W') : s.post enc P f apart fresh handsOn again W args (.bool true) W' := by
  have hlt : ∀ p ∈ before, p.block < W.heap.size := fun p hp => hW.lt p hp
  have hW' := hW
  obtain ⟨p, q, hA, hV, rfl, _, _⟩ := hW
  rw [hv] at hV
  obtain ⟨rfl, rfl⟩ := trodVars_none hV
  have hlen : ∀ {ts : List TypeId} {vs : List Value} {ds : List (DataW H)} {ps : List MemPlace}, DataW.TrodAll enc P W 0 (fun _ => true) true ts vs ds ps → ds.length = ts.length := by
    intro ts
    induction ts with
    | nil => intro vs ds ps h; obtain ⟨_, rfl, _⟩ := trodAll_nil h; rfl
    | cons t ts ih =>
      intro vs ds ps h
      obtain ⟨v, vs1, d, ds1, a, b, rfl, rfl, rfl, h1, h2⟩ := trodAll_cons h
      simp [ih h2]
  obtain ⟨s1, s2, s3⟩ := hs ds (hlen hA)
  simp only [List.append_nil] at hlt hW'
  refine post_of_below (pa := p) (pv := []) hW' ?_ ?_ ?_ (by simp) hb ?_
  · intro b sp hd
    rw [List.append_nil, s1, ht]
    exact trodAll_mk1 (shut_bool htb true)
  · intro sp hsp
    rw [List.append_nil, s2]
    exact trodAll_stays hl hb hr hA hlt hsp
  · intro sp hsp
    rw [List.append_nil, s3, hv]
    exact rfl
  · exact ok_one ht rfl (okWide_bool_mk htb true)
end
end Go.Proofs.YteggbpaljmopoaaGreat
