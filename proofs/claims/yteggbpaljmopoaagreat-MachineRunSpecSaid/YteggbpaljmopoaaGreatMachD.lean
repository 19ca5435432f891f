/- The package machine: the loop of a run. Conditions: those that each theorem states. -/
import Derived.Test.YteggbpaljmopoaaGreatMachC
set_option linter.unusedVariables false
set_option linter.unusedSimpArgs false
/- machine.Run. -/
namespace Go.Proofs.YteggbpaljmopoaaGreat
open Go.RowKit BF

theorem ResAt.alloc {W : World} {g : Nat} {u k : Value} {lead left e : Int} (h : ResAt W g u k lead left e) (o : Obj) : ResAt (W.alloc o) g u k lead left e :=
  ⟨h.1.alloc o, h.2.1.alloc o, h.2.2.1.alloc o, h.2.2.2.1.alloc o, h.2.2.2.2.alloc o⟩

theorem cf_enter {P : Program} {f : FuncId} {fn : Func} {c : Code} (hf : P.funcs[f]? = some fn) (hname : (fn.name == "runtime.NumGoroutine") = false) (hb : fn.body = some c) (args : Array Value) (w : World) :
    (callFunc f args).run P w = .ok (.enter f args) w := by
  have h1 : fn.name ≠ "runtime.NumGoroutine" := by simpa using hname
  simp [callFunc, hf, h1, hb]
theorem cf_fnOf (op : Int) (args : Array Value) (W : World) : (callFunc (fnOf op) args).run Tryz.prog W = .ok (.enter (fnOf op) args) W := by
  unfold fnOf
  repeat' split
  · exact cf_enter Tryz.func36 (by kernel_rfl) rfl _ _
  · exact cf_enter Tryz.func37 (by kernel_rfl) rfl _ _
  · exact cf_enter Tryz.func38 (by kernel_rfl) rfl _ _
  · exact cf_enter Tryz.func39 (by kernel_rfl) rfl _ _
  · exact cf_enter Tryz.func40 (by kernel_rfl) rfl _ _
  · exact cf_enter Tryz.func41 (by kernel_rfl) rfl _ _
  · exact cf_enter Tryz.func42 (by kernel_rfl) rfl _ _
theorem row_slice {w : World} {B n z : Nat} {T : TypeId} {u : Value} {us : List Value} (h : w.ownsRow B T z u n us) : ∃ a n c, u = .slice a n c := by
  rcases h.2 with ⟨h, _⟩ | ⟨g, cap, _, h, _⟩
  · exact ⟨_, _, _, h⟩
  · exact ⟨_, _, _, h⟩
def PanicWith (C : List PanicEntry) (A : Act → Prop) (R : World → Prop) (Q : Exit → Act → World → Prop) : Exit → Act → World → Prop
  | .panic c, a, w => c = C ∧ A a ∧ R w
  | e, a, w => Q e a w
theorem wp_region_panicWith {P : Program} {id : Nat} {ops : Array Oper} {b : Bool} {C : List PanicEntry} {A : Act → Prop} {R : World → Prop} {Q : Exit → Act → World → Prop} {a : Act} {w : World}
    (hp : ∀ a w, A a → R w → Q (.panic C) a w) (h : (Code.region id ops b).wp P (PanicWith C A R Q) a w) : (Code.region id ops b).wp P Q a w :=
  Code.wp_mono (fun e a w h => by
    cases e with
    | panic c => obtain ⟨rfl, h1, h2⟩ := h; exact hp a w h1 h2
    | _ => exact h) h
def runD (g : Nat) : List Deferred := [{ target := .fn (.func 17) #[.pointer (some ⟨g, 0, none⟩), .pointer (some ⟨g + 1, 0, none⟩), .pointer (some ⟨g + 1 + 1, 0, none⟩), .pointer (some ⟨g + 1 + 1 + 1, 0, none⟩), .pointer (some ⟨g + 1 + 1 + 1 + 1, 0, none⟩)], args := #[] }]
def RunAct (g : Nat) (a : Act) : Prop := a.defers = runD g ∧ a.tmps[8]? = some (.pointer (some ⟨g, 0, none⟩)) ∧ a.tmps[9]? = some (.pointer (some ⟨g + 1, 0, none⟩)) ∧ a.tmps[10]? = some (.pointer (some ⟨g + 1 + 1, 0, none⟩)) ∧ a.tmps[11]? = some (.pointer (some ⟨g + 1 + 1 + 1, 0, none⟩)) ∧ a.tmps[12]? = some (.pointer (some ⟨g + 1 + 1 + 1 + 1, 0, none⟩))
theorem run_leaves (w W : World) (a : Act) (E : Int) (g : Nat) (hg : w.heap.size ≤ g) {u k : Value} {lead left e0 : Int} (ha : RunAct g a) (hr : ResAt W g u k lead left e0) (hw : Below w.heap.size w W) {R : Except Int (MS × Nat)} (hR : R = .error E) :
    bodyPostD Tryz.prog Tryz.f7 (RunPost w R) (.panic (errv E)) a W := by
  subst hR
  obtain ⟨tm, ds⟩ := a
  obtain ⟨h1, t8, t9, t10, t11, t12⟩ := ha
  dsimp only at h1 t8 t9 t10 t11 t12
  subst h1
  show Leaves _ _ _ _ _ _ _
  refine leaves_cons (f := 17) (args := resPtrs g) (by simp) (by simp [go_sem, resPtrs]) ?_
  refine (run_caught E g 0 0 _ _ _ _ _ _ _ hr).mono ?_
  rintro e u' w' ⟨rfl, rfl, hr2, hb⟩
  have c0 := hr2.1.cell (i := 0) rfl
  have c1 := hr2.2.1.cell (i := 0) rfl
  have c2 := hr2.2.2.1.cell (i := 0) rfl
  have c3 := hr2.2.2.2.1.cell (i := 0) rfl
  have c4 := hr2.2.2.2.2.cell (i := 0) rfl
  have HB := Lib.hid (hw.trans (hb _ hg))
  clear hb hr hr2 hw
  simp [Leaves, settle, results, Tryz.results7, go_sem, t8, t9, t10, t11, t12, c0, c1, c2, c3, c4, RunPost, runErr, HB.out]

theorem ownsRow_base {w : World} {B B' n z : Nat} {T : TypeId} {u : Value} {us : List Value} (h : w.ownsRow B T z u n us) (hb : B' ≤ B) : w.ownsRow B' T z u n us := by
  obtain ⟨h1, h2 | ⟨g, cap, cur, h2, h3, h4⟩⟩ := h
  · exact ⟨h1, .inl h2⟩
  · exact ⟨h1, .inr ⟨g, cap, cur, h2, Nat.le_trans hb h3, h4⟩⟩
/-- a row above B is as it was behind stores into five blocks below B -/
theorem row_five {w : World} {B n z : Nat} {T : TypeId} {u : Value} {us : List Value} (h : w.ownsRow B T z u n us) {g : Nat} (hg : g + 1 + 1 + 1 + 1 < B) (v0 v1 v2 v3 v4 : Value) :
    World.ownsRow (((((w.setCell ⟨g, 0, none⟩ v0).setCell ⟨g + 1, 0, none⟩ v1).setCell ⟨g + 1 + 1, 0, none⟩ v2).setCell ⟨g + 1 + 1 + 1, 0, none⟩ v3).setCell ⟨g + 1 + 1 + 1 + 1, 0, none⟩ v4) B T z u n us := by
  have hn : ∀ q, q < B → u.ownBlock ≠ some q := fun q hq he => by have := row_low h _ he; omega
  exact ((((h.kept (grownBy_set _ _ _ _) (.inr (hn _ (by omega)))).kept (grownBy_set _ _ _ _) (.inr (hn _ (by omega)))).kept (grownBy_set _ _ _ _) (.inr (hn _ (by omega)))).kept (grownBy_set _ _ _ _) (.inr (hn _ (by omega)))).kept (grownBy_set _ _ _ _) (.inr (hn _ (by omega)))
theorem run_done (w W : World) (a : Act) (g : Nat) (s : MS) (fu : Nat) (fz : Int) (hfz : fz = (fu : Int)) {au ak : Option Addr} {nu cu nk ck : Nat} (ha : RunAct g a) (hr : ResAt W g (.slice au nu cu) (.slice ak nk ck) s.lead fz 0) (hw : Below w.heap.size w W) {R : Except Int (MS × Nat)} (hR : R = .ok (s, fu))
    (hU : W.ownsRow w.heap.size 58 6 (.slice au nu cu) s.us.length (s.us.flatMap useC)) (hK : W.ownsRow w.heap.size 60 2 (.slice ak nk ck) s.ws.length (s.ws.flatMap workC)) :
    bodyPostD Tryz.prog Tryz.f7 (RunPost w R) .ret a W := by
  subst hR
  subst hfz
  obtain ⟨tm, ds⟩ := a
  obtain ⟨h1, t8, t9, t10, t11, t12⟩ := ha
  dsimp only at h1 t8 t9 t10 t11 t12
  subst h1
  have HP : Hid (∃ u k, (Ending.returned (.tuple #[.slice au nu cu, .slice ak nk ck, .int .i64 s.lead, .int .i64 (fu : Int), .int .i64 0]) = .returned (.tuple #[u, k, .int .i64 s.lead, .int .i64 (fu : Int), .int .i64 0])) ∧ W.ownsRow w.heap.size 58 6 u s.us.length (s.us.flatMap useC) ∧ W.ownsRow w.heap.size 60 2 k s.ws.length (s.ws.flatMap workC)) := ⟨_, _, rfl, hU, hK⟩
  have HW := Lib.hid hw
  clear hU hK hw
  show Leaves _ _ _ _ _ _ _
  refine leaves_cons (f := 17) (args := resPtrs g) (by simp) (by simp [go_sem, resPtrs]) ?_
  refine (run_idle g W).mono ?_
  rintro e u' w' ⟨rfl, rfl, rfl⟩
  have c0 := hr.1.cell (i := 0) rfl
  have c1 := hr.2.1.cell (i := 0) rfl
  have c2 := hr.2.2.1.cell (i := 0) rfl
  have c3 := hr.2.2.2.1.cell (i := 0) rfl
  have c4 := hr.2.2.2.2.cell (i := 0) rfl
  refine ⟨_, ?_, HW.out, HP.out⟩
  simp [results, Tryz.results7, go_sem, t8, t9, t10, t11, t12, c0, c1, c2, c3, c4]

set_option maxRecDepth 100000 in
set_option maxHeartbeats 4000000 in
theorem run_main (xs : List Ins) (cs : List Int) (an ad : ByteArray) (g1 o1 n cap1 g2 o2 m cap2 : Nat) (F : Nat) (hF : (F : Int) ≤ 9223372036854775807) (hm : ((m : Int) == 0) = false) (w : World)
    (hn : xs.length = n) (hn60 : n ≤ 60) (hcode : CodeAt w g1 o1 xs) (hfits : ∀ x ∈ xs, x.r.fits) (hlast : lastOk xs = true) (hall : allV xs = true) (haf : (⟨false, an, ad⟩ : RV).fits) (hcm : cs.length = m) (hcm2 : m ≤ 1000) (hg2 : g2 < w.heap.size) (hcs : ∀ j, (h : j < cs.length) → w.cell? ⟨g2, o2 + j, none⟩ = some (.int .i64 cs[j]))
    (HC : Hid (∀ w1, Below w.heap.size w w1 → Calls Tryz.prog 9 #[.slice (some ⟨g1, o1, none⟩) n cap1] w1 fun e w' => e = .returned (.int .i64 0) ∧ Below w1.heap.size w1 w'))
    (HA2 : Hid (∀ w : World, Calls Tryz.prog 16 #[.agg #[.bool false, .string an, .string ad]] w fun e w' => e = .returned (.int .i64 0) ∧ Below w.heap.size w w'))
    (z0 : Bool) (z1 z2 : ByteArray) (hz : (⟨z0, z1, z2⟩ : RV) = startM.b) (HN : Hid (∀ w : World, Calls Tryz.prog 18 #[.int .i64 0, .int .i64 1] w fun e w' => e = .returned (.tuple #[.agg #[.bool z0, .string z1, .string z2], .int .i64 0]) ∧ Below w.heap.size w w')) :
    Calls Tryz.prog 7 #[.slice (some ⟨g1, o1, none⟩) n cap1, .slice (some ⟨g2, o2, none⟩) m cap2, .agg #[.bool false, .string an, .string ad], .int .i64 (F : Int)] w (RunPost w (runM xs cs ⟨false, an, ad⟩ F startM)) := by
  obtain ⟨W0, hW0, HA, HR, HW⟩ := run_boxes w ⟨false, an, ad⟩
  dsimp only at hW0 HA
  generalize hR : runM xs cs ⟨false, an, ad⟩ F startM = R at *
  have HRM := Lib.hid hR
  have HN0 := Lib.hid hn
  have HCD := Lib.hid hcode
  have HFT := Lib.hid hfits
  have HLA := Lib.hid hlast
  have HAL := Lib.hid hall
  have HAF := Lib.hid haf
  have HCM := Lib.hid hcm
  have HCS := Lib.hid hcs
  have HZ := Lib.hid hz
  have HFB := Lib.hid hF
  clear hR hn hcode hfits hlast hall haf hcm hcs hz hF
  have hmf : ∀ (w : World) (p q r s t : Value), (Instr.makeFunc (.func 17) #[] #[p, q, r, s, t]).run Tryz.prog w = .ok (.func (.func 17) #[] #[p, q, r, s, t]) w := fun _ _ _ _ _ _ => rfl
  go_enter_defers Tryz.func7, Tryz.ntmps7
  go_wp2_with (fail)
  refine (HC.out _ HW.out).mono ?_
  rintro e w1 ⟨rfl, hb⟩
  have HA1 := Lib.hid (HA.out.under hb)
  have HR1 := Lib.hid (HR.out.under hb)
  have HW1 := Lib.hid (HW.out.trans (hb.mono HW.out.size))
  clear hb hW0
  have a0 := HA1.out.cell (i := 0) rfl
  have a1 := HA1.out.cell (i := 1) rfl
  have a2 := HA1.out.cell (i := 2) rfl
  go_wp2_with (fail)
  refine (HA2.out _).mono ?_
  rintro e w2 ⟨rfl, hb⟩
  have HA3 := Lib.hid (HA1.out.under hb)
  have HR3 := Lib.hid (HR1.out.under hb)
  have HW3 := Lib.hid (HW1.out.trans (hb.mono HW1.out.size))
  clear hb a0 a1 a2 HA HA1 HR HR1 HW HW1
  have a1 := HA3.out.cell (i := 1) rfl
  have a2 := HA3.out.cell (i := 2) rfl
  have a0 : w2.cell? ⟨w.heap.size, 0, none⟩ = some (.bool false) := HA3.out.cell (i := 0) rfl
  go_wp2_with (fail)
  refine (HN.out _).mono ?_
  rintro e w3 ⟨rfl, hb⟩
  have hp0 := Blk.new w2 63 (stC (.slice (some ⟨g2, o2, none⟩) m cap2) ⟨false, an, ad⟩ RV.zero (.slice none 0 0) (.slice none 0 0) 0 0 false)
  have HP4 := Lib.hid (hp0.under hb)
  have HR4 := Lib.hid (ResAt.under (HR3.out.alloc (.cells (stC (.slice (some ⟨g2, o2, none⟩) m cap2) ⟨false, an, ad⟩ RV.zero (.slice none 0 0) (.slice none 0 0) 0 0 false) 63)) hb)
  have HW4 := Lib.hid ((HW3.out.alloc HW3.out.size (.cells (stC (.slice (some ⟨g2, o2, none⟩) m cap2) ⟨false, an, ad⟩ RV.zero (.slice none 0 0) (.slice none 0 0) 0 0 false) 63)).trans (hb.mono (by have := HW3.out.size; simp; omega)))
  have hpl : w2.heap.size < w3.heap.size := HP4.out.lt
  have hpw : w.heap.size + 1 + 1 + 1 + 1 + 1 < w2.heap.size := HR3.out.2.2.2.2.lt
  clear hb hp0 a0 a1 a2 HA3 HR3
  have c4 : (w3.alloc (.cells #[.bool z0, .string z1, .string z2] 25)).cell? ⟨w.heap.size + 1 + 1 + 1 + 1 + 1, 0, none⟩ = some (.int .i64 0) := (HR4.out.2.2.2.2.alloc _).cell rfl
  have f4 := (HR4.out.2.2.2.2.alloc (.cells #[.bool z0, .string z1, .string z2] 25)).frozen
  go_wp2_with (fail)
  have HZ5 := Lib.hid ((Blk.new w3 25 #[.bool z0, .string z1, .string z2]).other (i := 0) (c := w.heap.size + 1 + 1 + 1 + 1 + 1) (.int .i64 0) (by omega))
  have HP5 := Lib.hid ((HP4.out.alloc (.cells #[.bool z0, .string z1, .string z2] 25)).other (i := 0) (c := w.heap.size + 1 + 1 + 1 + 1 + 1) (.int .i64 0) (by omega))
  have HR5 : Hid (ResAt ((w3.alloc (.cells #[.bool z0, .string z1, .string z2] 25)).setCell ⟨w.heap.size + 1 + 1 + 1 + 1 + 1, 0, none⟩ (.int .i64 0)) (w.heap.size + 1) (.slice none 0 0) (.slice none 0 0) 0 0 0) := by
    obtain ⟨h0, h1, h2, h3, h4⟩ := ResAt.alloc HR4.out (.cells #[.bool z0, .string z1, .string z2] 25)
    exact ⟨h0.other _ (by omega), h1.other _ (by omega), h2.other _ (by omega), h3.other _ (by omega), h4.set (i := 0) _⟩
  have HW5 := Lib.hid ((HW4.out.alloc HW4.out.size (.cells #[.bool z0, .string z1, .string z2] 25)).setCell (p := ⟨w.heap.size + 1 + 1 + 1 + 1 + 1, 0, none⟩) (by simp; omega) (.int .i64 0))
  clear c4 f4 HR4 HP4
  generalize ((w3.alloc (.cells #[.bool z0, .string z1, .string z2] 25)).setCell ⟨w.heap.size + 1 + 1 + 1 + 1 + 1, 0, none⟩ (.int .i64 0)) = W5 at *
  refine (mmust_ok _).mono ?_
  rintro e w6 ⟨rfl, hw6⟩
  rw [hw6]
  clear hw6
  have z0' : W5.cell? ⟨w3.heap.size, 0, none⟩ = some (.bool z0) := HZ5.out.cell rfl
  have z1' : W5.cell? ⟨w3.heap.size, 1, none⟩ = some (.string z1) := HZ5.out.cell rfl
  have z2' : W5.cell? ⟨w3.heap.size, 2, none⟩ = some (.string z2) := HZ5.out.cell rfl
  have q4 := HP5.out.cell (i := 4) rfl
  have q5 := HP5.out.cell (i := 5) rfl
  have q6 := HP5.out.cell (i := 6) rfl
  have fq := HP5.out.frozen
  go_wp2_with (fail)
  have HP6 : Hid (Blk (((W5.setCell ⟨w2.heap.size, 4, none⟩ (.bool z0)).setCell ⟨w2.heap.size, 5, none⟩ (.string z1)).setCell ⟨w2.heap.size, 6, none⟩ (.string z2)) w2.heap.size 63 (stC (.slice (some ⟨g2, o2, none⟩) m cap2) ⟨false, an, ad⟩ ⟨z0, z1, z2⟩ (.slice none 0 0) (.slice none 0 0) 0 0 false)) :=
    ((HP5.out.set (i := 4) _).set (i := 5) _).set (i := 6) _
  have HR6 : Hid (ResAt (((W5.setCell ⟨w2.heap.size, 4, none⟩ (.bool z0)).setCell ⟨w2.heap.size, 5, none⟩ (.string z1)).setCell ⟨w2.heap.size, 6, none⟩ (.string z2)) (w.heap.size + 1) (.slice none 0 0) (.slice none 0 0) 0 0 0) := by
    obtain ⟨h0, h1, h2, h3, h4⟩ := HR5.out
    exact ⟨((h0.other _ (by omega)).other _ (by omega)).other _ (by omega), ((h1.other _ (by omega)).other _ (by omega)).other _ (by omega), ((h2.other _ (by omega)).other _ (by omega)).other _ (by omega), ((h3.other _ (by omega)).other _ (by omega)).other _ (by omega), ((h4.other _ (by omega)).other _ (by omega)).other _ (by omega)⟩
  have HW6 := Lib.hid (((HW5.out.setCell (p := ⟨w2.heap.size, 4, none⟩) (by simp; omega) (.bool z0)).setCell (p := ⟨w2.heap.size, 5, none⟩) (by simp; omega) (.string z1)).setCell (p := ⟨w2.heap.size, 6, none⟩) (by simp; omega) (.string z2))
  clear z0' z1' z2' q4 q5 q6 fq HP5 HR5 HZ5
  generalize (((W5.setCell ⟨w2.heap.size, 4, none⟩ (.bool z0)).setCell ⟨w2.heap.size, 5, none⟩ (.string z1)).setCell ⟨w2.heap.size, 6, none⟩ (.string z2)) = W6 at *
  refine (moperations_any _).mono ?_
  rintro e w7 ⟨rfl, hb⟩
  have HP7 := Lib.hid ((HP6.out.under hb).alloc (.cells opsV 68))
  have HR7 := Lib.hid (ResAt.alloc (HR6.out.under hb) (.cells opsV 68))
  have HW7 := Lib.hid ((HW6.out.trans (hb.mono HW6.out.size)).alloc (Nat.le_trans HW6.out.size hb.size) (.cells opsV 68))
  have HO7 := Lib.hid (Blk.new w7 68 opsV)
  have hw7 : w2.heap.size < w7.heap.size := (HP6.out.under hb).lt
  have HW7' : Hid (Below w.heap.size w (w7.alloc (.cells opsV 68))) := HW7
  clear hb HP6 HR6 HW6
  unfold opsV
  go_wp2_with (fail)
  unfold opsV at HP7 HR7 HW7' HO7
  clear HW7
  have hQ : w7.heap.size < (w7.alloc (.cells #[.nilFunc, .func (.func 36) #[] #[], .func (.func 37) #[] #[], .func (.func 38) #[] #[], .func (.func 39) #[] #[], .func (.func 39) #[] #[], .func (.func 40) #[] #[], .func (.func 41) #[] #[], .func (.func 42) #[] #[]] 68)).heap.size := by simp
  generalize (w7.alloc (.cells #[.nilFunc, .func (.func 36) #[] #[], .func (.func 37) #[] #[], .func (.func 38) #[] #[], .func (.func 39) #[] #[], .func (.func 39) #[] #[], .func (.func 40) #[] #[], .func (.func 41) #[] #[], .func (.func 42) #[] #[]] 68)) = W8 at *
  have hp8 : w2.heap.size < W8.heap.size := by omega
  have hwp : w.heap.size < w2.heap.size := by omega
  have HS8 : Hid (StAt W8 W8.heap.size w2.heap.size (.slice (some ⟨g2, o2, none⟩) m cap2) ⟨false, an, ad⟩ startM (.slice none 0 0) (.slice none 0 0)) :=
    ⟨by rw [← HZ.out]; exact HP7.out, World.ownsRow_nil _ _ _ _, World.ownsRow_nil _ _ _ _, .inl rfl, hp8, Nat.le_refl _⟩
  clear HP7 HZ
  have HOK8 : Hid (OkM xs startM) := start_ok (fun h => by have := HLA.out; rw [h] at this; cases this)
  go_loopw [3] (fun f wr => ∃ (fz : Int) (fu : Nat) (s : MS) (u k : Value), f = .int .i64 fz ∧ Hid (fz = (fu : Int)) ∧ Hid (fu ≤ F) ∧ Hid (StAt wr W8.heap.size w2.heap.size (.slice (some ⟨g2, o2, none⟩) m cap2) ⟨false, an, ad⟩ s u k) ∧ Hid (Side W8.heap.size w2.heap.size W8 wr) ∧ Hid (OkM xs s) ∧ Hid (runM xs cs ⟨false, an, ad⟩ fu s = R)) (fun f _ => (intOf f).toNat)
  case atStart => exact ⟨F, F, startM, _, _, rfl, rfl, Nat.le_refl _, HS8.out, Side.refl _ _ _, HOK8.out, HRM.out⟩
  case round =>
    obtain ⟨fz, fu, s, u, k, rfl, HFZ, HFF, HST, HSD, HOK, HRN⟩ := hrel
    have HRS : Hid (ResAt wr (w.heap.size + 1) (.slice none 0 0) (.slice none 0 0) 0 0 0) := by
      obtain ⟨h0, h1, h2, h3, h4⟩ := HR7.out
      exact ⟨h0.side HSD.out (by omega) (by omega), h1.side HSD.out (by omega) (by omega), h2.side HSD.out (by omega) (by omega), h3.side HSD.out (by omega) (by omega), h4.side HSD.out (by omega) (by omega)⟩
    have HWR := Lib.hid (HW7'.out.trans (HSD.out.below (B' := w.heap.size) (by omega) (by omega)))
    obtain ⟨sb, us, ws, lead, at_, done⟩ := s
    have c11 : wr.cell? ⟨w2.heap.size, 11, none⟩ = some (.bool done) := HST.out.blk.cell rfl
    cases done with
    | true =>
      obtain ⟨au, nu, cu, rfl⟩ := row_slice HST.out.uses
      obtain ⟨ak, nk, ck, rfl⟩ := row_slice HST.out.work
      have hR0 := Lib.hid ((runM_done (xs := xs) (cs := cs) (am := ⟨false, an, ad⟩) (s := ⟨sb, us, ws, lead, at_, true⟩) fu rfl).symm.trans HRN.out)
      have hwr8 := HST.out.high
      have c7 : wr.cell? ⟨w2.heap.size, 7, none⟩ = some (.slice au nu cu) := HST.out.blk.cell rfl
      have c8 : wr.cell? ⟨w2.heap.size, 8, none⟩ = some (.slice ak nk ck) := HST.out.blk.cell rfl
      have c9 : wr.cell? ⟨w2.heap.size, 9, none⟩ = some (.int .i64 lead) := HST.out.blk.cell rfl
      have r0 := HRS.out.1.cell (i := 0) rfl
      have r1 := HRS.out.2.1.cell (i := 0) rfl
      have r2 := HRS.out.2.2.1.cell (i := 0) rfl
      have r3 := HRS.out.2.2.2.1.cell (i := 0) rfl
      have r4 := HRS.out.2.2.2.2.cell (i := 0) rfl
      have f0 := HRS.out.1.frozen
      have f1 := HRS.out.2.1.frozen
      have f2 := HRS.out.2.2.1.frozen
      have f3 := HRS.out.2.2.2.1.frozen
      have f4 := HRS.out.2.2.2.2.frozen
      go_wp2_with (fail)
      have BP0 := Lib.hid HST.out.blk.drew
      refine wp_region_noPanic ?_
      refine wp_region_held_drew (S := fun w' => w'.cell? ⟨w2.heap.size, 7, none⟩ = some (.slice au nu cu) ∧ w'.cell? ⟨w2.heap.size, 8, none⟩ = some (.slice ak nk ck) ∧ w'.cell? ⟨w2.heap.size, 9, none⟩ = some (.int .i64 lead)) (by kernel_rfl) ⟨BP0.out.cell (i := 7) rfl, BP0.out.cell (i := 8) rfl, BP0.out.cell (i := 9) rfl⟩ (fun hS0 => ?_)
      refine wpAnyH_take (i := 0) (v := ?_) rfl (by kernel_rfl) (by kernel_rfl) (by kernel_rfl) (fun _ _ _ h => by first | exact h | simpa [PanicWith, RunAct, Act.put, Array.getElem?_setIfInBounds] using h) (Or.inl ⟨by rfl, ?_⟩) (by assumption) ?_
      rotate_left
      · intro w hSw; (try dsimp only at hSw); go_simp; try with_reducible rfl
      try simp only [Act.put, List.setIfInBounds_toArray, List.set_cons_zero, List.set_cons_succ]
      refine wpAnyH_take (i := 1) (v := ?_) rfl (by kernel_rfl) (by kernel_rfl) (by kernel_rfl) (fun _ _ _ h => by first | exact h | simpa [PanicWith, RunAct, Act.put, Array.getElem?_setIfInBounds] using h) (Or.inl ⟨by rfl, ?_⟩) (by assumption) ?_
      rotate_left
      · intro w hSw; (try dsimp only at hSw); go_simp; try with_reducible rfl
      try simp only [Act.put, List.setIfInBounds_toArray, List.set_cons_zero, List.set_cons_succ]
      refine wpAnyH_take (i := 2) (v := ?_) rfl (by kernel_rfl) (by kernel_rfl) (by kernel_rfl) (fun _ _ _ h => by first | exact h | simpa [PanicWith, RunAct, Act.put, Array.getElem?_setIfInBounds] using h) (Or.inl ⟨by rfl, ?_⟩) (by assumption) ?_
      rotate_left
      · intro w hSw; (try dsimp only at hSw); go_simp; try with_reducible rfl
      try simp only [Act.put, List.setIfInBounds_toArray, List.set_cons_zero, List.set_cons_succ]
      refine wpAnyH_take (i := 3) (v := ?_) rfl (by kernel_rfl) (by kernel_rfl) (by kernel_rfl) (fun _ _ _ h => by first | exact h | simpa [PanicWith, RunAct, Act.put, Array.getElem?_setIfInBounds] using h) (Or.inl ⟨by rfl, ?_⟩) (by assumption) ?_
      rotate_left
      · intro w hSw; (try dsimp only at hSw); go_simp; try with_reducible rfl
      try simp only [Act.put, List.setIfInBounds_toArray, List.set_cons_zero, List.set_cons_succ]
      refine wpAnyH_take (i := 4) (v := ?_) rfl (by kernel_rfl) (by kernel_rfl) (by kernel_rfl) (fun _ _ _ h => by first | exact h | simpa [PanicWith, RunAct, Act.put, Array.getElem?_setIfInBounds] using h) (Or.inl ⟨by rfl, ?_⟩) (by assumption) ?_
      rotate_left
      · intro w hSw; (try dsimp only at hSw); go_simp; try with_reducible rfl
      try simp only [Act.put, List.setIfInBounds_toArray, List.set_cons_zero, List.set_cons_succ]
      refine wpAnyH_take (i := 5) (v := ?_) rfl (by kernel_rfl) (by kernel_rfl) (by kernel_rfl) (fun _ _ _ h => by first | exact h | simpa [PanicWith, RunAct, Act.put, Array.getElem?_setIfInBounds] using h) (Or.inl ⟨by rfl, ?_⟩) (by assumption) ?_
      rotate_left
      · intro w hSw; (try dsimp only at hSw); go_simp; try with_reducible rfl
      try simp only [Act.put, List.setIfInBounds_toArray, List.set_cons_zero, List.set_cons_succ]
      refine wpAnyH_take (i := 6) (v := ?_) rfl (by kernel_rfl) (by kernel_rfl) (by kernel_rfl) (fun _ _ _ h => by first | exact h | simpa [PanicWith, RunAct, Act.put, Array.getElem?_setIfInBounds] using h) (Or.inl ⟨by rfl, ?_⟩) (by assumption) ?_
      rotate_left
      · intro w hSw; (try dsimp only at hSw); go_simp; try with_reducible rfl
      try simp only [Act.put, List.setIfInBounds_toArray, List.set_cons_zero, List.set_cons_succ]
      refine wpAnyH_ready (rs := [7]) (by kernel_rfl) (by simp) ?_
      refine AllReadyH.cons rfl (fun K hK => ?_) ?_
      · go_simp
        have BP1 := Lib.hid (BP0.out.other (i := 0) (c := w.heap.size + 1) (.slice au nu cu) (by omega))
        refine hK _ _ ⟨BP1.out.cell (i := 7) rfl, BP1.out.cell (i := 8) rfl, BP1.out.cell (i := 9) rfl⟩ (fun hS2 => ?_)
        clear hK K
        refine wpAnyH_ready (rs := [8]) (by kernel_rfl) (by simp) ?_
        refine AllReadyH.cons rfl (fun K hK => ?_) ?_
        · go_simp
          have BP2 := Lib.hid (BP1.out.other (i := 0) (c := w.heap.size + 1 + 1) (.slice ak nk ck) (by omega))
          refine hK _ _ ⟨BP2.out.cell (i := 7) rfl, BP2.out.cell (i := 8) rfl, BP2.out.cell (i := 9) rfl⟩ (fun hS3 => ?_)
          clear hK K
          refine wpAnyH_ready (rs := [9]) (by kernel_rfl) (by simp) ?_
          refine AllReadyH.cons rfl (fun K hK => ?_) ?_
          · go_simp
            have BP3 := Lib.hid (BP2.out.other (i := 0) (c := w.heap.size + 1 + 1 + 1) (.int .i64 lead) (by omega))
            refine hK _ _ ⟨BP3.out.cell (i := 7) rfl, BP3.out.cell (i := 8) rfl, BP3.out.cell (i := 9) rfl⟩ (fun hS4 => ?_)
            clear hK K
            refine wpAnyH_ready (rs := [10]) (by kernel_rfl) (by simp) ?_
            refine AllReadyH.cons rfl (fun K hK => ?_) ?_
            · go_simp
              have BP4 := Lib.hid (BP3.out.other (i := 0) (c := w.heap.size + 1 + 1 + 1 + 1) (.int .i64 fz) (by omega))
              refine hK _ _ ⟨BP4.out.cell (i := 7) rfl, BP4.out.cell (i := 8) rfl, BP4.out.cell (i := 9) rfl⟩ (fun hS5 => ?_)
              clear hK K
              refine wpAnyH_ready (rs := [11]) (by kernel_rfl) (by simp) ?_
              refine AllReadyH.cons rfl (fun K hK => ?_) ?_
              · go_simp
                have BP5 := Lib.hid (BP4.out.other (i := 0) (c := w.heap.size + 1 + 1 + 1 + 1 + 1) (.int .i64 0) (by omega))
                refine hK _ _ ⟨BP5.out.cell (i := 7) rfl, BP5.out.cell (i := 8) rfl, BP5.out.cell (i := 9) rfl⟩ (fun hS6 => ?_)
                clear hK K
                refine wpAnyH_done (by kernel_rfl) ?_ _
                apply NoPanic.normal
                go_wp2
                clear BP0 BP1 BP2 BP3 BP4 BP5
                obtain ⟨W2, hW2, HR2, HB2⟩ := res_fill HRS.out (.slice au nu cu) (.slice ak nk ck) lead fz 0
                have HU2 := Lib.hid (ownsRow_base (B' := w.heap.size) (row_five (g := w.heap.size + 1) HST.out.uses (by omega) (.slice au nu cu) (.slice ak nk ck) (.int .i64 lead) (.int .i64 fz) (.int .i64 0)) (by omega))
                have HK2 := Lib.hid (ownsRow_base (B' := w.heap.size) (row_five (g := w.heap.size + 1) HST.out.work (by omega) (.slice au nu cu) (.slice ak nk ck) (.int .i64 lead) (.int .i64 fz) (.int .i64 0)) (by omega))
                rw [hW2] at HU2 HK2 ⊢
                exact run_done w W2.drew _ (w.heap.size + 1) ⟨sb, us, ws, lead, at_, true⟩ fu fz HFZ.out ⟨rfl, rfl, rfl, rfl, rfl, rfl⟩ HR2.out (HWR.out.trans (HB2.out _ (Nat.le_succ _))).drew hR0.out.symm HU2.out HK2.out
              exact AllReadyH.nil
            exact AllReadyH.nil
          exact AllReadyH.nil
        exact AllReadyH.nil
      exact AllReadyH.nil
    | false =>
      by_cases hfu : fu = 0
      · have hfz : (fz == 0) = true := by rw [HFZ.out, hfu]; rfl
        go_wp2_with (fail)
        refine (mmust_bad 170 rfl _).mono ?_
        rintro e w9 ⟨rfl, hw9⟩
        rw [hw9]
        clear hw9
        have hR0 : R = .error 170 := by rw [← HRN.out, hfu]; exact runM_zero rfl
        dsimp only
        exact run_leaves w wr _ 170 (w.heap.size + 1) (Nat.le_succ _) ⟨rfl, rfl, rfl, rfl, rfl, rfl⟩ HRS.out HWR.out hR0
      · obtain ⟨f', rfl⟩ : ∃ f', fu = f' + 1 := ⟨fu - 1, by omega⟩
        have hz0 : (fz == 0) = false := by rw [HFZ.out]; simp; omega
        obtain ⟨fz1, hf1⟩ : ∃ z, z = fz - 1 := ⟨_, rfl⟩
        have hwf : IntKind.i64.wrap (fz - 1) = fz1 := by
          have h1 := HFZ.out
          have h2 := HFF.out
          have h3 := HFB.out
          rw [hf1]; exact Go.IntWalk.i64_in _ (by omega)
        have HF1 : Hid (fz1 = (f' : Int)) := by have h1 := HFZ.out; show _ = _; omega
        clear hf1
        obtain ⟨i, hi⟩ : ∃ i : Nat, at_ = (i : Int) := ⟨at_.toNat, by have := HOK.out.low; dsimp only at this; omega⟩
        subst hi
        have hin : i < xs.length := by have := HOK.out.high rfl; dsimp only at this; omega
        have hin' : i < n := by rw [← HN0.out]; exact hin
        have HX := Lib.hid ((HCD.out.below (HWR.out) HCD.out.1).2 i hin)
        have HV := Lib.hid (allV_get xs HAL.out i hin)
        have HXF := Lib.hid (HFT.out _ (List.getElem_mem hin))
        have HRS1 := Lib.hid (runM_step (cs := cs) (am := ⟨false, an, ad⟩) (s := ⟨sb, us, ws, lead, (i : Int), false⟩) f' rfl i hin rfl)
        have HSO := Lib.hid (fun s' => step_ok (cs := cs) (am := ⟨false, an, ad⟩) (s' := s') HLA.out HAL.out HOK.out rfl i hin rfl)
        have hk0 : ((xs.length - 1 - i : Nat) : Int) ≤ 100 := by have := HN0.out; omega
        generalize ((xs.length - 1 - i : Nat) : Int) = k0 at *
        generalize xs[i] = x at *
        clear hin
        obtain ⟨op, xa, xb, xr⟩ := x
        have hop : 1 ≤ op ∧ op ≤ 8 := valid_op HV.out
        obtain ⟨xs0, xn, xd⟩ := xr
        obtain ⟨j, hj⟩ : ∃ j : Nat, op = (j : Int) := ⟨op.toNat, by omega⟩
        subst hj
        have hj8 : j < 9 := by omega
        have hj9 : (j : Int) < 9 := by omega
        have hof : wr.cell? ⟨w7.heap.size, j, none⟩ = some (.func (.func (fnOf (j : Int))) #[] #[]) := by
          have HO := HO7.out.side HSD.out (by omega) (by omega)
          have hj1 : 1 ≤ j := by omega
          clear hop
          match j, hj1, hj8 with
          | 1, _, _ => exact HO.cell (i := 1) rfl
          | 2, _, _ => exact HO.cell (i := 2) rfl
          | 3, _, _ => exact HO.cell (i := 3) rfl
          | 4, _, _ => exact HO.cell (i := 4) rfl
          | 5, _, _ => exact HO.cell (i := 5) rfl
          | 6, _, _ => exact HO.cell (i := 6) rfl
          | 7, _, _ => exact HO.cell (i := 7) rfl
          | 8, _, _ => exact HO.cell (i := 8) rfl
        obtain ⟨x0, x1, x2, x3, x4, x5⟩ := HX.out
        dsimp only at x0 x1 x2 x3 x4 x5
        have c10 : wr.cell? ⟨w2.heap.size, 10, none⟩ = some (.int .i64 (i : Int)) := HST.out.blk.cell rfl
        have hwi := wrap_near ((i : Int) + 1) (by omega) (by omega)
        have hwl := HST.out.blk.lt
        have C10 : (wr.alloc (.cells #[.int .i64 (j : Int), .int .i64 xa, .int .i64 xb, .bool xs0, .string xn, .string xd] 40)).cell? ⟨w2.heap.size, 10, none⟩ = some (.int .i64 (i : Int)) := (HST.out.blk.alloc _).cell (i := 10) rfl
        have F10 := (HST.out.blk.alloc (.cells #[.int .i64 (j : Int), .int .i64 xa, .int .i64 xb, .bool xs0, .string xn, .string xd] 40)).frozen
        go_wp2_with (fail)
        have hwr8 := HST.out.high
        have HST9 : Hid (StAt ((wr.setCell ⟨w2.heap.size, 10, none⟩ (.int .i64 ((i : Int) + 1))).alloc (.cells #[.int .i64 (j : Int), .int .i64 xa, .int .i64 xb, .bool xs0, .string xn, .string xd] 40)) W8.heap.size w2.heap.size (.slice (some ⟨g2, o2, none⟩) m cap2) ⟨false, an, ad⟩ ⟨sb, us, ws, lead, (i : Int) + 1, false⟩ u k) := HST.out.same (s' := ⟨sb, us, ws, lead, (i : Int) + 1, false⟩) ((HST.out.blk.set (i := 10) (.int .i64 ((i : Int) + 1))).alloc _) (grownBy_trans (grownBy_set _ _ _ _) (World.grownBy_alloc _ _ _)) rfl rfl
        have HSD9 : Hid (Side W8.heap.size w2.heap.size W8 ((wr.setCell ⟨w2.heap.size, 10, none⟩ (.int .i64 ((i : Int) + 1))).alloc (.cells #[.int .i64 (j : Int), .int .i64 xa, .int .i64 xb, .bool xs0, .string xn, .string xd] 40))) := (HSD.out.set _ _).alloc (by simpa using hwr8) _
        have HX9 : Hid (Blk ((wr.setCell ⟨w2.heap.size, 10, none⟩ (.int .i64 ((i : Int) + 1))).alloc (.cells #[.int .i64 (j : Int), .int .i64 xa, .int .i64 xb, .bool xs0, .string xn, .string xd] 40)) wr.heap.size 40 #[.int .i64 (j : Int), .int .i64 xa, .int .i64 xb, .bool xs0, .string xn, .string xd]) := Blk.new' _ _ _ _ (by simp)
        have HO9 : Hid (((wr.setCell ⟨w2.heap.size, 10, none⟩ (.int .i64 ((i : Int) + 1))).alloc (.cells #[.int .i64 (j : Int), .int .i64 xa, .int .i64 xb, .bool xs0, .string xn, .string xd] 40)).cell? ⟨w7.heap.size, j, none⟩ = some (.func (.func (fnOf (j : Int))) #[] #[])) := by rw [← hof]; exact (Side.cell ((((Side.refl W8.heap.size w2.heap.size wr).set _ _).alloc (by simpa using hwr8) _)) (by omega) (by simp; omega))
        clear hof c10 c11 C10 F10 x0 x1 x2 x3 x4 x5 HRS HWR
        generalize ((wr.setCell ⟨w2.heap.size, 10, none⟩ (.int .i64 ((i : Int) + 1))).alloc (.cells #[.int .i64 (j : Int), .int .i64 xa, .int .i64 xb, .bool xs0, .string xn, .string xd] 40)) = W9 at *
        have HRS : Hid (ResAt W9 (w.heap.size + 1) (.slice none 0 0) (.slice none 0 0) 0 0 0) := by
          obtain ⟨h0, h1, h2, h3, h4⟩ := HR7.out
          exact ⟨h0.side HSD9.out (by omega) (by omega), h1.side HSD9.out (by omega) (by omega), h2.side HSD9.out (by omega) (by omega), h3.side HSD9.out (by omega) (by omega), h4.side HSD9.out (by omega) (by omega)⟩
        have HWR := Lib.hid (HW7'.out.trans (HSD9.out.below (B' := w.heap.size) (by omega) (by omega)))
        have hcm9 : cs.length = m := HCM.out
        have hm1 : 1 ≤ cs.length := Nat.pos_of_ne_zero (fun h => by rw [hcm9] at h; simp [h] at hm)
        have hoi := HOK.out
        have HSTEP := Lib.hid (step_any cs ⟨false, an, ad⟩ ⟨(j : Int), xa, xb, ⟨xs0, xn, xd⟩⟩ k0 HV.out hk0 HXF.out HAF.out W9.drew W8.heap.size w2.heap.size g2 o2 cap2 hm1 (by omega) (fun q hq => (HWR.out.drew.cell (p := ⟨g2, o2 + q, none⟩) hg2).trans (HCS.out q hq)) ⟨sb, us, ws, lead, (i : Int) + 1, false⟩ u k (by rw [hcm9]; exact ⟨HST9.out.blk.drew, HST9.out.uses, HST9.out.work, HST9.out.apart, HST9.out.low, HST9.out.high⟩) (by dsimp only; omega) (by dsimp only; omega) (by have := hoi.us; dsimp only at this ⊢; omega) (by have := hoi.ws; dsimp only at this ⊢; omega) hoi.fits)
        rw [hcm9] at HSTEP
        clear hoi hcm9 hm1
        unfold Ins.v at HSTEP
        dsimp only at HSTEP HRS1 HSO
        generalize hSM : stepM cs ⟨false, an, ad⟩ ⟨(j : Int), xa, xb, ⟨xs0, xn, xd⟩⟩ ⟨sb, us, ws, lead, (i : Int) + 1, false⟩ = SM at *
        have hcf := cf_fnOf (j : Int)
        generalize fnOf (j : Int) = fn at *
        have HSM := Lib.hid hSM
        clear hSM
        cases SM with
        | error E =>
          have hRE : R = .error E := by rw [← HRN.out, HRS1.out]
          have HRE := Lib.hid hRE
          clear hRE
          refine wp_region_panicWith (C := errv E) (A := RunAct (w.heap.size + 1)) (R := fun W => ResAt W (w.heap.size + 1) (.slice none 0 0) (.slice none 0 0) 0 0 0 ∧ Below w.heap.size w W) (fun a9 w9 ha9 hr9 => run_leaves w w9 a9 E (w.heap.size + 1) (Nat.le_succ _) ha9 hr9.1 hr9.2 HRE.out) ?_
          refine wp_region_held_drew (S := fun w' => w'.cell? ⟨wr.heap.size, 0, none⟩ = some (.int .i64 (j : Int)) ∧ w'.cell? ⟨wr.heap.size, 1, none⟩ = some (.int .i64 xa) ∧ w'.cell? ⟨wr.heap.size, 2, none⟩ = some (.int .i64 xb) ∧ w'.cell? ⟨wr.heap.size, 3, none⟩ = some (.bool xs0) ∧ w'.cell? ⟨wr.heap.size, 4, none⟩ = some (.string xn) ∧ w'.cell? ⟨wr.heap.size, 5, none⟩ = some (.string xd) ∧ w'.cell? ⟨w7.heap.size, j, none⟩ = some (.func (.func fn) #[] #[])) (by kernel_rfl) ⟨HX9.out.cell (i := 0) rfl, HX9.out.cell (i := 1) rfl, HX9.out.cell (i := 2) rfl, HX9.out.cell (i := 3) rfl, HX9.out.cell (i := 4) rfl, HX9.out.cell (i := 5) rfl, HO9.out⟩ (fun hS0 => ?_)
          refine wpAnyH_take (i := 0) (v := ?_) rfl (by kernel_rfl) (by kernel_rfl) (by kernel_rfl) (fun _ _ _ h => by first | exact h | simpa [PanicWith, RunAct, Act.put, Array.getElem?_setIfInBounds] using h) (Or.inl ⟨by rfl, ?_⟩) (by assumption) ?_
          rotate_left
          · intro w hSw; (try dsimp only at hSw); go_simp; try with_reducible rfl
          try simp only [Act.put, List.setIfInBounds_toArray, List.set_cons_zero, List.set_cons_succ]
          refine wpAnyH_take (i := 1) (v := ?_) rfl (by kernel_rfl) (by kernel_rfl) (by kernel_rfl) (fun _ _ _ h => by first | exact h | simpa [PanicWith, RunAct, Act.put, Array.getElem?_setIfInBounds] using h) (Or.inl ⟨by rfl, ?_⟩) (by assumption) ?_
          rotate_left
          · intro w hSw; (try dsimp only at hSw); go_simp; try with_reducible rfl
          try simp only [Act.put, List.setIfInBounds_toArray, List.set_cons_zero, List.set_cons_succ]
          refine wpAnyH_take (i := 2) (v := ?_) rfl (by kernel_rfl) (by kernel_rfl) (by kernel_rfl) (fun _ _ _ h => by first | exact h | simpa [PanicWith, RunAct, Act.put, Array.getElem?_setIfInBounds] using h) (Or.inl ⟨by rfl, ?_⟩) (by assumption) ?_
          rotate_left
          · intro w hSw; (try dsimp only at hSw); go_simp; try with_reducible rfl
          try simp only [Act.put, List.setIfInBounds_toArray, List.set_cons_zero, List.set_cons_succ]
          refine wpAnyH_take (i := 3) (v := ?_) rfl (by kernel_rfl) (by kernel_rfl) (by kernel_rfl) (fun _ _ _ h => by first | exact h | simpa [PanicWith, RunAct, Act.put, Array.getElem?_setIfInBounds] using h) (Or.inl ⟨by rfl, ?_⟩) (by assumption) ?_
          rotate_left
          · intro w hSw; (try dsimp only at hSw); go_simp; try with_reducible rfl
          try simp only [Act.put, List.setIfInBounds_toArray, List.set_cons_zero, List.set_cons_succ]
          refine wpAnyH_take (i := 4) (v := ?_) rfl (by kernel_rfl) (by kernel_rfl) (by kernel_rfl) (fun _ _ _ h => by first | exact h | simpa [PanicWith, RunAct, Act.put, Array.getElem?_setIfInBounds] using h) (Or.inl ⟨by rfl, ?_⟩) (by assumption) ?_
          rotate_left
          · intro w hSw; (try dsimp only at hSw); go_simp; try with_reducible rfl
          try simp only [Act.put, List.setIfInBounds_toArray, List.set_cons_zero, List.set_cons_succ]
          refine wpAnyH_ready (rs := [5]) (by kernel_rfl) (by simp) ?_
          refine AllReadyH.cons rfl (fun K hK => ?_) ?_
          · go_simp
            refine HSTEP.out.mono ?_
            rintro e w10 ⟨rfl, hsd'⟩
            have HSD' := Lib.hid (HSD9.out.drew.trans hsd')
            refine ⟨rfl, ⟨rfl, rfl, rfl, rfl, rfl, rfl⟩, ?_, HW7'.out.trans (HSD'.out.below (B' := w.heap.size) (by omega) (by omega))⟩
            obtain ⟨h0, h1, h2, h3, h4⟩ := HR7.out
            exact ⟨h0.side HSD'.out (by omega) (by omega), h1.side HSD'.out (by omega) (by omega), h2.side HSD'.out (by omega) (by omega), h3.side HSD'.out (by omega) (by omega), h4.side HSD'.out (by omega) (by omega)⟩
          exact AllReadyH.nil
        | ok s' =>
          have x0 : W9.cell? ⟨wr.heap.size, 0, none⟩ = some (.int .i64 (j : Int)) := HX9.out.cell rfl
          have x1 : W9.cell? ⟨wr.heap.size, 1, none⟩ = some (.int .i64 xa) := HX9.out.cell rfl
          have x2 : W9.cell? ⟨wr.heap.size, 2, none⟩ = some (.int .i64 xb) := HX9.out.cell rfl
          have x3 : W9.cell? ⟨wr.heap.size, 3, none⟩ = some (.bool xs0) := HX9.out.cell rfl
          have x4 : W9.cell? ⟨wr.heap.size, 4, none⟩ = some (.string xn) := HX9.out.cell rfl
          have x5 : W9.cell? ⟨wr.heap.size, 5, none⟩ = some (.string xd) := HX9.out.cell rfl
          have hof := HO9.out
          refine wp_region_noPanic ?_
          refine wp_region_held_drew (S := fun _ => True) (by kernel_rfl) trivial (fun hS0 => ?_)
          refine wpAnyH_take (i := 0) (v := ?_) rfl (by kernel_rfl) (by kernel_rfl) (by kernel_rfl) (fun _ _ _ h => by first | exact h | simpa [PanicWith, RunAct, Act.put, Array.getElem?_setIfInBounds] using h) (Or.inl ⟨by rfl, ?_⟩) (by assumption) ?_
          rotate_left
          · intro w hSw; (try dsimp only at hSw); go_simp; try with_reducible rfl
          try simp only [Act.put, List.setIfInBounds_toArray, List.set_cons_zero, List.set_cons_succ]
          refine wpAnyH_ready (rs := [1, 4]) (by kernel_rfl) (by simp) ?_
          refine AllReadyH.cons rfl (fun K hK => ?_) ?_
          · go_simp
            refine hK _ _ trivial (fun hS1 => ?_)
            clear hK K
            refine wpAnyH_take (i := 2) (v := ?_) rfl (by kernel_rfl) (by kernel_rfl) (by kernel_rfl) (fun _ _ _ h => by first | exact h | simpa [PanicWith, RunAct, Act.put, Array.getElem?_setIfInBounds] using h) (Or.inl ⟨by rfl, ?_⟩) (by assumption) ?_
            rotate_left
            · intro w hSw; (try dsimp only at hSw); go_simp; try with_reducible rfl
            try simp only [Act.put, List.setIfInBounds_toArray, List.set_cons_zero, List.set_cons_succ]
            refine wpAnyH_ready (rs := [3, 4]) (by kernel_rfl) (by simp) ?_
            refine AllReadyH.cons rfl (fun K hK => ?_) ?_
            · go_simp
              refine hK _ _ trivial (fun hS2 => ?_)
              clear hK K
              refine wpAnyH_ready (rs := [4]) (by kernel_rfl) (by simp) ?_
              refine AllReadyH.cons rfl (fun K hK => ?_) ?_
              · go_simp
                refine hK _ _ trivial (fun hS3 => ?_)
                clear hK K
                refine wpAnyH_ready (rs := [5]) (by kernel_rfl) (by simp) ?_
                refine AllReadyH.cons rfl (fun K hK => ?_) ?_
                · go_simp
                  refine HSTEP.out.mono ?_
                  rintro e w10 ⟨rfl, ⟨u', k', hst'⟩, hsd'⟩
                  have HST' := Lib.hid hst'
                  have HSD' := Lib.hid (HSD9.out.drew.trans hsd')
                  have HXB := Lib.hid hsd'
                  clear hst' hsd'
                  refine hK _ _ trivial (fun hS5 => ?_)
                  clear hK K
                  refine wpAnyH_done (by kernel_rfl) ?_ _
                  apply NoPanic.normal
                  have HRN' : Hid (runM xs cs ⟨false, an, ad⟩ f' s' = R) := HRS1.out.symm.trans HRN.out
                  have HOK' := Lib.hid (HSO.out s' rfl).1
                  have HM : Hid (fz1.toNat < fz.toNat) := by have h1 : fz1 = (f' : Int) := HF1.out; have h2 : fz = ((f' + 1 : Nat) : Int) := HFZ.out; show _ < _; omega
                  go_wp2
                  go_roundw
                  case rel => exact ⟨fz1, f', s', u', k', rfl, HF1.out, by have := HFF.out; show _ ≤ _; omega, HST'.out, HSD'.out, HOK'.out, HRN'.out⟩
                  case measure => exact HM.out
                exact AllReadyH.nil
              exact AllReadyH.nil
            refine AllReadyH.cons rfl (fun K hK => ?_) ?_
            · go_simp
              refine hK _ _ trivial (fun hS2 => ?_)
              clear hK K
              refine wpAnyH_ready (rs := [3]) (by kernel_rfl) (by simp) ?_
              refine AllReadyH.cons rfl (fun K hK => ?_) ?_
              · go_simp
                refine hK _ _ trivial (fun hS3 => ?_)
                clear hK K
                refine wpAnyH_ready (rs := [5]) (by kernel_rfl) (by simp) ?_
                refine AllReadyH.cons rfl (fun K hK => ?_) ?_
                · go_simp
                  refine HSTEP.out.mono ?_
                  rintro e w10 ⟨rfl, ⟨u', k', hst'⟩, hsd'⟩
                  have HST' := Lib.hid hst'
                  have HSD' := Lib.hid (HSD9.out.drew.trans hsd')
                  have HXB := Lib.hid hsd'
                  clear hst' hsd'
                  refine hK _ _ trivial (fun hS5 => ?_)
                  clear hK K
                  refine wpAnyH_done (by kernel_rfl) ?_ _
                  apply NoPanic.normal
                  have HRN' : Hid (runM xs cs ⟨false, an, ad⟩ f' s' = R) := HRS1.out.symm.trans HRN.out
                  have HOK' := Lib.hid (HSO.out s' rfl).1
                  have HM : Hid (fz1.toNat < fz.toNat) := by have h1 : fz1 = (f' : Int) := HF1.out; have h2 : fz = ((f' + 1 : Nat) : Int) := HFZ.out; show _ < _; omega
                  go_wp2
                  go_roundw
                  case rel => exact ⟨fz1, f', s', u', k', rfl, HF1.out, by have := HFF.out; show _ ≤ _; omega, HST'.out, HSD'.out, HOK'.out, HRN'.out⟩
                  case measure => exact HM.out
                exact AllReadyH.nil
              exact AllReadyH.nil
            exact AllReadyH.nil
          refine AllReadyH.cons rfl (fun K hK => ?_) ?_
          · go_simp
            refine hK _ _ trivial (fun hS1 => ?_)
            clear hK K
            refine wpAnyH_ready (rs := [1]) (by kernel_rfl) (by simp) ?_
            refine AllReadyH.cons rfl (fun K hK => ?_) ?_
            · go_simp
              refine hK _ _ trivial (fun hS2 => ?_)
              clear hK K
              refine wpAnyH_take (i := 2) (v := ?_) rfl (by kernel_rfl) (by kernel_rfl) (by kernel_rfl) (fun _ _ _ h => by first | exact h | simpa [PanicWith, RunAct, Act.put, Array.getElem?_setIfInBounds] using h) (Or.inl ⟨by rfl, ?_⟩) (by assumption) ?_
              rotate_left
              · intro w hSw; (try dsimp only at hSw); go_simp; try with_reducible rfl
              try simp only [Act.put, List.setIfInBounds_toArray, List.set_cons_zero, List.set_cons_succ]
              refine wpAnyH_ready (rs := [3]) (by kernel_rfl) (by simp) ?_
              refine AllReadyH.cons rfl (fun K hK => ?_) ?_
              · go_simp
                refine hK _ _ trivial (fun hS3 => ?_)
                clear hK K
                refine wpAnyH_ready (rs := [5]) (by kernel_rfl) (by simp) ?_
                refine AllReadyH.cons rfl (fun K hK => ?_) ?_
                · go_simp
                  refine HSTEP.out.mono ?_
                  rintro e w10 ⟨rfl, ⟨u', k', hst'⟩, hsd'⟩
                  have HST' := Lib.hid hst'
                  have HSD' := Lib.hid (HSD9.out.drew.trans hsd')
                  have HXB := Lib.hid hsd'
                  clear hst' hsd'
                  refine hK _ _ trivial (fun hS5 => ?_)
                  clear hK K
                  refine wpAnyH_done (by kernel_rfl) ?_ _
                  apply NoPanic.normal
                  have HRN' : Hid (runM xs cs ⟨false, an, ad⟩ f' s' = R) := HRS1.out.symm.trans HRN.out
                  have HOK' := Lib.hid (HSO.out s' rfl).1
                  have HM : Hid (fz1.toNat < fz.toNat) := by have h1 : fz1 = (f' : Int) := HF1.out; have h2 : fz = ((f' + 1 : Nat) : Int) := HFZ.out; show _ < _; omega
                  go_wp2
                  go_roundw
                  case rel => exact ⟨fz1, f', s', u', k', rfl, HF1.out, by have := HFF.out; show _ ≤ _; omega, HST'.out, HSD'.out, HOK'.out, HRN'.out⟩
                  case measure => exact HM.out
                exact AllReadyH.nil
              exact AllReadyH.nil
            exact AllReadyH.nil
          exact AllReadyH.nil
end Go.Proofs.YteggbpaljmopoaaGreat
