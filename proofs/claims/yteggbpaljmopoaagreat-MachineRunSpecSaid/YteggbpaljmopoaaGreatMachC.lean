/- The package machine: a step of any kind. Conditions: those that each theorem states. -/
import Derived.Test.YteggbpaljmopoaaGreatMachB
set_option linter.unusedVariables false
set_option linter.unusedSimpArgs false
/- machine: one step of a run. -/
namespace Go.Proofs.YteggbpaljmopoaaGreat
open Go.RowKit BF

def fnOf (op : Int) : FuncId := if op = 1 then 36 else if op = 2 then 37 else if op = 3 then 38 else if op = 4 ∨ op = 5 then 39 else if op = 6 then 40 else if op = 7 then 41 else 42
def StepPost (B p : Nat) (c : Value) (am : RV) (R : Except Int MS) (w : World) (e : Ending) (w' : World) : Prop :=
  match R with
  | .ok s' => e = .returned (.tuple #[]) ∧ (∃ u' k', StAt w' B p c am s' u' k') ∧ Side B p w w'
  | .error E => e = .panicked (errv E) ∧ Side B p w w'
theorem side_none {w w' : World} {B p : Nat} (h : w.grownBy w' none) (hB : B ≤ w.heap.size) : Side B p w w' := (Side.refl B p w).grown h hB (by simp)
theorem side_some {w w' : World} {B p : Nat} (h : w.grownBy w' (some p)) (hB : B ≤ w.heap.size) : Side B p w w' :=
  ⟨h.os, h.tape, h.output, h.size, fun b hb hp => h.block b (Nat.lt_of_lt_of_le hb hB) (fun he => hp (Option.some.inj he))⟩
theorem wrap_near (n : Int) (h1 : -1000 ≤ n) (h2 : n ≤ 1000) : IntKind.i64.wrap n = n := Go.IntWalk.i64_in n (by omega)

theorem bit_post {w : World} {B p : Nat} {c : Value} {am : RV} {s s' : MS} {u k : Value} (hst : StAt w B p c am s u k) (h1 : s'.us = s.us) (h2 : s'.ws = s.ws) {f : FuncId} {args : Array Value}
    (h : Calls Tryz.prog f args w fun e w' => e = .returned (.tuple #[]) ∧ Blk w' p 63 (stC c am s'.b u k s'.lead s'.at_ s'.done) ∧ w.grownBy w' (some p)) :
    Calls Tryz.prog f args w (StepPost B p c am (.ok s') w) :=
  h.mono fun e w' ⟨he, hb, hg⟩ => ⟨he, ⟨u, k, hst.same hb hg h1 h2⟩, side_some hg hst.high⟩

theorem step_test (cs : List Int) (am : RV) (x : Ins) (k0 : Int) (hx : validI x k0 = true) (h1 : x.op = 1) (w : World) (B p g o cap : Nat) (hcs : 1 ≤ cs.length) (hcl : cs.length ≤ 1000) (hc : ∀ j, (h : j < cs.length) → w.cell? ⟨g, o + j, none⟩ = some (.int .i64 cs[j]))
    (s : MS) (u k : Value) (hst : StAt w B p (.slice (some ⟨g, o, none⟩) cs.length cap) am s u k) (hat : 0 ≤ s.at_) (hat2 : s.at_ ≤ 100) :
    Calls Tryz.prog 36 #[.pointer (some ⟨p, 0, none⟩), x.v] w (StepPost B p (.slice (some ⟨g, o, none⟩) cs.length cap) am (.ok { s with at_ := if holdsM cs x then s.at_ + 1 else s.at_ }) w) := by
  refine bit_post hst (s' := { s with at_ := if holdsM cs x then s.at_ + 1 else s.at_ }) rfl rfl ?_
  have hV : validI x k0 = true := hx
  unfold validI at hV
  rw [if_pos h1] at hV
  simp only [inB, Bool.and_eq_true, decide_eq_true_eq] at hV
  have hday := hc (cs.length - 1) (by omega)
  have hgd : cs.getD (cs.length - 1) 0 = cs[cs.length - 1] := by rw [List.getD_eq_getElem?_getD, List.getElem?_eq_getElem (by omega)]; rfl
  have hw := wrap_near (s.at_ + 1) (by omega) (by omega)
  obtain ⟨op, a, b, r⟩ := x
  dsimp only at hV h1 ⊢
  unfold holdsM
  dsimp only
  by_cases ha1 : a = -1
  · subst ha1
    rw [if_pos rfl, hgd]
    by_cases hd : b ≤ cs[cs.length - 1]
    · rw [decide_eq_true hd, if_pos rfl]
      exact test1_t _ _ _ _ _ _ _ _ _ _ _ hcs hcl _ _ _ _ _ _ _ hw _ hst.blk hday hd
    · rw [decide_eq_false hd, if_neg (by simp)]
      exact test1_f _ _ _ _ _ _ _ _ _ _ _ hcs hcl _ _ _ _ _ _ _ hw _ hst.blk hday (Int.not_le.1 hd)
  rw [if_neg ha1]
  by_cases ha2 : a = -2
  · subst ha2
    rw [if_pos rfl, hgd]
    by_cases hd : cs[cs.length - 1] < b
    · rw [decide_eq_true hd, if_pos rfl]
      exact test2_t _ _ _ _ _ _ _ _ _ _ _ hcs hcl _ _ _ _ _ _ _ hw _ hst.blk hday hd
    · rw [decide_eq_false hd, if_neg (by simp)]
      exact test2_f _ _ _ _ _ _ _ _ _ _ _ hcs hcl _ _ _ _ _ _ _ hw _ hst.blk hday (Int.not_lt.1 hd)
  rw [if_neg ha2]
  obtain ⟨j, rfl⟩ : ∃ j : Nat, a = (j : Int) := ⟨a.toNat, by omega⟩
  by_cases hj : (j : Int) < (cs.length : Int) - 1
  · have hjl : j < cs.length := by omega
    have hcj := hc j hjl
    have hgj : cs.getD (j : Int).toNat 0 = cs[j] := by rw [Int.toNat_natCast, List.getD_eq_getElem?_getD, List.getElem?_eq_getElem hjl]; rfl
    rw [decide_eq_true hj, hgj]
    by_cases hd : cs[j] = b
    · rw [decide_eq_true hd]
      exact test3_t _ _ _ _ _ _ _ _ _ _ _ _ hcs hcl _ _ _ _ _ _ _ hw _ hst.blk hcj hj (by simpa using hd)
    · rw [decide_eq_false hd]
      exact test3_f _ _ _ _ _ _ _ _ _ _ _ _ hcs hcl _ _ _ _ _ _ _ hw _ hst.blk hcj hj (by simpa using hd)
  · rw [decide_eq_false hj]
    exact test3_n _ _ _ _ _ _ _ _ _ _ _ hcs hcl _ _ _ _ _ _ _ hw _ hst.blk (decide_eq_false hj)

theorem flat_snoc {α : Type} (us : List α) (v : α) (f : α → List Value) : (us ++ [v]).flatMap f = us.flatMap f ++ f v := by simp
theorem ok_neg {e : Int} (h : ¬ e = 0) : (e != 0) = true := by simpa using h

theorem grow_use {w : World} {B p : Nat} {c : Value} {am : RV} {s : MS} {u k : Value} (hst : StAt w B p c am s u k) (v : UseV) {f : FuncId} {args : Array Value}
    (h : Calls Tryz.prog f args w (GrowPost w B p 58 60 6 2 (fun u' => stC c am s.b u' k s.lead s.at_ s.done) s.us.length s.ws.length (s.us.flatMap useC) (s.ws.flatMap workC) (useC v) k)) :
    Calls Tryz.prog f args w (StepPost B p c am (.ok { s with us := s.us ++ [v] }) w) :=
  h.mono fun e w' ⟨he, u', hb, h1, h2, ha, hs⟩ => ⟨he, ⟨u', k, hb, by rw [flat_snoc, List.length_append]; exact h1, h2, .inr ha, hst.low, Nat.le_trans hst.high hs.size⟩, hs⟩
theorem grow_work {w : World} {B p : Nat} {c : Value} {am : RV} {s : MS} {u k : Value} (hst : StAt w B p c am s u k) (v : WorkV) {f : FuncId} {args : Array Value}
    (h : Calls Tryz.prog f args w (GrowPost w B p 60 58 2 6 (fun k' => stC c am s.b u k' s.lead s.at_ s.done) s.ws.length s.us.length (s.ws.flatMap workC) (s.us.flatMap useC) (workC v) u)) :
    Calls Tryz.prog f args w (StepPost B p c am (.ok { s with ws := s.ws ++ [v] }) w) :=
  h.mono fun e w' ⟨he, k', hb, h1, h2, ha, hs⟩ => ⟨he, ⟨u, k', hb, h2, by rw [flat_snoc, List.length_append]; exact h1, .inr (Ne.symm ha), hst.low, Nat.le_trans hst.high hs.size⟩, hs⟩

theorem step_any (cs : List Int) (am : RV) (x : Ins) (k0 : Int) (hx : validI x k0 = true) (hk0 : k0 ≤ 100) (hxf : x.r.fits) (hamf : am.fits) (w : World) (B p g o cap : Nat) (hcs : 1 ≤ cs.length) (hcl : cs.length ≤ 1000) (hc : ∀ j, (h : j < cs.length) → w.cell? ⟨g, o + j, none⟩ = some (.int .i64 cs[j]))
    (s : MS) (u k : Value) (hst : StAt w B p (.slice (some ⟨g, o, none⟩) cs.length cap) am s u k) (hat : 0 ≤ s.at_) (hat2 : s.at_ ≤ 100) (hus : s.us.length ≤ 1000) (hws : s.ws.length ≤ 1000) (hbf : s.b.fits) :
    Calls Tryz.prog (fnOf x.op) #[.pointer (some ⟨p, 0, none⟩), x.v] w (StepPost B p (.slice (some ⟨g, o, none⟩) cs.length cap) am (stepM cs am x s) w) := by
  unfold fnOf stepM
  by_cases h1 : x.op = 1
  · rw [if_pos h1, if_pos h1]
    exact step_test cs am x k0 hx h1 w B p g o cap hcs hcl hc s u k hst hat hat2
  rw [if_neg h1, if_neg h1]
  by_cases h2 : x.op = 2
  · rw [if_pos h2, if_pos h2]
    have hV : validI x k0 = true := hx
    unfold validI at hV
    rw [if_neg h1, if_pos h2] at hV
    simp only [Bool.and_eq_true, decide_eq_true_eq] at hV
    exact bit_post hst (s' := { s with at_ := s.at_ + x.a }) rfl rfl (jump_any x p _ am s.b u k s.lead s.at_ s.done (wrap_near _ (by omega) (by omega)) w hst.blk)
  rw [if_neg h2, if_neg h2]
  by_cases h3 : x.op = 3
  · rw [if_pos h3, if_pos h3]
    have HD : Hid (∀ w : World, Calls Tryz.prog 65 #[am.v, x.r.v] w fun e w' => e = .returned (.tuple #[(divR am x.r).1.v, .int .i64 (divR am x.r).2]) ∧ Below w.heap.size w w') := fun w => RDiv_any am x.r hamf hxf w
    generalize divR am x.r = D at *
    obtain ⟨⟨v0, v1, v2⟩, E⟩ := D
    dsimp only at HD ⊢
    by_cases hE : E = 0
    · subst hE
      rw [if_pos rfl]
      exact bit_post hst (s' := { s with b := ⟨v0, v1, v2⟩, lead := x.b }) rfl rfl (load_ok x.op x.a x.b x.r.neg x.r.n x.r.d p _ am s.b u k s.lead s.at_ s.done v0 v1 v2 HD w hst.blk)
    · rw [if_neg hE]
      exact (load_bad x.op x.a x.b x.r.neg x.r.n x.r.d p _ am s.b u k s.lead s.at_ s.done E (ok_neg hE) v0 v1 v2 HD w hst.blk).mono fun e w' ⟨he, hg⟩ => ⟨he, side_none hg hst.high⟩
  rw [if_neg h3, if_neg h3]
  by_cases h4 : x.op = 4 ∨ x.op = 5
  · rw [if_pos h4, if_pos h4]
    have HD : Hid (∀ w : World, Calls Tryz.prog 66 #[x.r.v, s.b.v] w fun e w' => e = .returned (.tuple #[(mulR x.r s.b).1.v, .int .i64 (mulR x.r s.b).2]) ∧ Below w.heap.size w w') := fun w => RMul_any x.r s.b hxf hbf w
    generalize mulR x.r s.b = D at *
    obtain ⟨⟨v0, v1, v2⟩, E⟩ := D
    dsimp only at HD ⊢
    by_cases hE : E = 0
    · subst hE
      rw [if_pos rfl]
      exact grow_use hst _ (use_ok x.op x.a x.b x.r.neg x.r.n x.r.d p _ am s.b u k s.lead s.at_ s.done v0 v1 v2 HD w hst.blk B _ _ _ _ hst.uses hst.work hst.apart hst.low hst.high hus)
    · rw [if_neg hE]
      exact (use_bad x.op x.a x.b x.r.neg x.r.n x.r.d p _ am s.b u k s.lead s.at_ s.done E (ok_neg hE) v0 v1 v2 HD w hst.blk).mono fun e w' ⟨he, hg⟩ => ⟨he, side_none hg hst.high⟩
  rw [if_neg h4, if_neg h4]
  by_cases h6 : x.op = 6
  · rw [if_pos h6, if_pos h6]
    have HD : Hid (∀ w : World, Calls Tryz.prog 67 #[s.b.v] w fun e w' => e = .returned (.tuple #[.int .i64 (ceilR s.b).1, .int .i64 (ceilR s.b).2]) ∧ Below w.heap.size w w') := fun w => Ceil_any s.b hbf w
    generalize ceilR s.b = D at *
    obtain ⟨N, E⟩ := D
    dsimp only at HD ⊢
    by_cases hE : E = 0
    · subst hE
      rw [if_pos rfl]
      by_cases hN : 1099511627776 < N
      · rw [if_pos hN]
        exact (run_lim x.op x.a x.b x.r.neg x.r.n x.r.d p _ am s.b u k s.lead s.at_ s.done N hN HD w hst.blk).mono fun e w' ⟨he, hg⟩ => ⟨he, side_none hg hst.high⟩
      · rw [if_neg hN]
        exact grow_work hst _ (run_ok x.op x.a x.b x.r.neg x.r.n x.r.d p _ am s.b u k s.lead s.at_ s.done N hN _ rfl HD w hst.blk B _ _ _ _ hst.work hst.uses (rows_ne hst.apart) hst.low hst.high hws)
    · rw [if_neg hE]
      exact (run_bad x.op x.a x.b x.r.neg x.r.n x.r.d p _ am s.b u k s.lead s.at_ s.done E (ok_neg hE) N HD w hst.blk).mono fun e w' ⟨he, hg⟩ => ⟨he, side_none hg hst.high⟩
  rw [if_neg h6, if_neg h6]
  by_cases h7 : x.op = 7
  · rw [if_pos h7, if_pos h7]
    exact bit_post hst (s' := { s with done := true }) rfl rfl (end_any x.op x.a x.b x.r.neg x.r.n x.r.d p _ am s.b u k s.lead s.at_ s.done w hst.blk)
  rw [if_neg h7, if_neg h7]
  exact (fail_any x.op x.a x.b x.r.neg x.r.n x.r.d _ w).mono fun e w' ⟨he, hg⟩ => ⟨he, side_none hg hst.high⟩
end Go.Proofs.YteggbpaljmopoaaGreat
