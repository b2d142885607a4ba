/- A function: what the executor finds of it is what a call of it does. Conditions: those that each theorem states. -/
import Derived.Test.YtbolcmcjniiieaaVxC
import Derived.Deep.Slices
import Derived.ChangeArms
import Derived.ChangeSame
import Derived.DataReads
import Derived.WideShapes
import Derived.Deep.Strs
import Derived.Lib.SmallJoins
set_option linter.unusedVariables false
set_option linter.unusedSimpArgs false
namespace Vx
open Go Go.RowKit

structure FnOk (P : Program) (fi : FnI) : Prop where
  ex : ∃ fn, P.funcs[fi.f]? = some fn ∧ fn.body = some fi.body ∧ fn.ntmps = fi.nt ∧ fn.results.toList = fi.res ∧ (fn.name == "runtime.NumGoroutine") = false
theorem scCells_map (fr : Bool) (xs : List SC) : scCells fr xs = xs.map (scCell fr) := by
  induction xs with
  | nil => rfl
  | cons x xs ih => simp [scCells, ih]

/-! ### The start -/
def g0 (A : Nat → Prop) (bs : List Nat) : Gm := { rv := fun _ => undef, ob := fun _ => [], wd := fun _ => 0, ln := fun _ => 0, bb := fun j => bs.getD j 0, G := A, dr := fun _ => False, db := fun j => j < bs.length }
def nB (w : World) (B : Nat → Prop) (j : Nat) : Prop := w.heap.size ≤ j ∨ B j
structure Init (A B : Nat → Prop) (bs : List Nat) (vals : List Value) (w : World) (σ : St) (b : Nat) : Prop where
  tmp : ∀ k x, get σ (.t k) = .av x → AVRep (g0 A bs) (nB w B) w (vals.getD k undef) x
  row : ∀ i, get σ (.r i) = .no
  box : ∀ k cs, get σ (.b k) = .box cs → k < b ∧ ∃ n us ty, bs[k]? = some n ∧ w.heap[n]? = some (.cells us.toArray ty (0, 0)) ∧ All2 (CellRep (g0 A bs) (nB w B) w) us cs ∧ ¬ A n
  dbx : ∀ k, k < b → get σ (.b k) ≠ .no
theorem sc_cell0 {A B : Nat → Prop} {bs : List Nat} {w : World} {u : Value} {x : SC} (h : SCRep w A u x) : CellRep (g0 A bs) (nB w B) w u (scCell false x) := by
  cases x with
  | sc v => exact h
  | row d => exact RowRep.chg (Chg.refl (fun _ => False) w) (fun _ _ h => h) (fun j hj => ⟨hj, fun e => by cases e⟩) h
theorem sc_cells0 {A B : Nat → Prop} {bs : List Nat} {w : World} {us : List Value} {xs : List SC} (h : All2 (SCRep w A) us xs) : All2 (CellRep (g0 A bs) (nB w B) w) us (scCells false xs) := by
  rw [scCells_map]
  exact All2.map_right (h.imp fun _ _ h' => sc_cell0 h')
theorem sc_cellsB {A B : Nat → Prop} {bs : List Nat} {w : World} (hBA : ∀ j, B j → A j) {us : List Value} {xs : List SC} (h : All2 (SCRep w B) us xs) : All2 (CellRep (g0 A bs) (nB w B) w) us (scCells true xs) := by
  rw [scCells_map]
  refine All2.map_right (h.imp fun _ x h' => ?_)
  cases x with
  | sc v => exact h'
  | row d => exact RowRep.chg (Chg.refl (fun _ => False) w) (fun _ _ h => h) (fun j hj => ⟨hBA j hj, fun _ => .inr hj⟩) h'
theorem Init.slot {A B : Nat → Prop} {bs : List Nat} {vals : List Value} {w : World} {σ : St} {b : Nat} (h : Init A B bs vals w σ b) {t : Nat} {u : Value} {us : List Value} (hv : vals.drop t = u :: us) {x : AV} (hx : AVRep (g0 A bs) (nB w B) w u x) : Init A B bs vals w ((.t t, .av x) :: σ) b := by
  refine ⟨fun k y hk => ?_, fun i => by rw [get_other (by simp)]; exact h.row i, fun k cs hk => h.box k cs (by rw [get_other (by simp)] at hk; exact hk), fun k hk => by rw [get_other (by simp)]; exact h.dbx k hk⟩
  by_cases e : k = t
  · subst e
    rw [get_same] at hk
    cases hk
    have : vals.getD k undef = u := by
      have h1 : (vals.drop k)[0]? = some u := by rw [hv]; rfl
      rw [List.getElem?_drop] at h1
      simp at h1
      simp [List.getD_eq_getElem?_getD, h1]
    rw [this]; exact hx
  · rw [get_other (Loc.t_ne e)] at hk
    exact h.tmp k y hk
theorem drop_succ_of {α : Type} {l : List α} {t : Nat} {u : α} {us : List α} (h : l.drop t = u :: us) : l.drop (t + 1) = us := by
  rw [← List.drop_drop, h]; rfl
theorem argSt_ok {A B : Nat → Prop} {bs : List Nat} {vals : List Value} {w : World} {us : List Value} {ds : List DA} {cs : List Nat} (h : ArgsRep w A B us ds cs) (hBA : ∀ j, B j → A j) :
    ∀ (σ : St) (t b : Nat), vals.drop t = us → bs.drop b = cs → b ≤ bs.length → Init A B bs vals w σ b → Init A B bs vals w (argSt ds t b σ) bs.length := by
  induction h with
  | nil =>
    intro σ t b _ hb hbl hi
    have : bs.length ≤ b := by simpa using hb
    have e : b = bs.length := by omega
    rw [e] at hi; exact hi
  | c hx _ ih =>
    intro σ t b hv hb hbl hi
    exact ih _ (t + 1) b (drop_succ_of hv) hb hbl (hi.slot hv (sc_cell0 hx))
  | agg hx _ ih =>
    intro σ t b hv hb hbl hi
    exact ih _ (t + 1) b (drop_succ_of hv) hb hbl (hi.slot hv ⟨_, rfl, sc_cells0 hx⟩)
  | bx h0 hx hA _ ih =>
    rename_i n ty vs xs us ds bs' _
    intro σ t b hv hb hbl hi
    have hbn : bs[b]? = some n := by
      have h1 : (bs.drop b)[0]? = some n := by rw [hb]; rfl
      rw [List.getElem?_drop] at h1
      simpa using h1
    have hlt := (List.getElem?_eq_some_iff.1 hbn).1
    refine ih _ (t + 1) (b + 1) (drop_succ_of hv) (drop_succ_of hb) hlt (Init.slot (u := .pointer (some ⟨n, 0, none⟩)) ⟨fun k y hk => hi.tmp k y (by rw [get_other (by simp)] at hk; exact hk), fun i => by rw [get_other (by simp)]; exact hi.row i, fun k cs hk => ?_, fun k hk => ?_⟩ hv ⟨hlt, ?_⟩)
    · by_cases e : k = b
      · subst e
        rw [get_same] at hk
        cases hk
        exact ⟨Nat.lt_succ_self _, n, vs, ty, hbn, h0, sc_cellsB hBA hx, hA⟩
      · rw [get_other (Loc.b_ne e)] at hk
        obtain ⟨h1, h2⟩ := hi.box k cs hk
        exact ⟨Nat.lt_succ_of_lt h1, h2⟩
    · by_cases e : k = b
      · subst e; rw [get_same]; simp
      · rw [get_other (Loc.b_ne e)]; exact hi.dbx k (by omega)
    · show Value.pointer _ = Value.pointer (some ⟨bs.getD b 0, 0, none⟩)
      rw [List.getD_eq_getElem?_getD, hbn]; rfl
theorem ArgsRep.len {w : World} {A B : Nat → Prop} {us : List Value} {ds : List DA} {cs : List Nat} (h : ArgsRep w A B us ds cs) : us.length = ds.length ∧ cs.length = nBx ds := by
  induction h with
  | nil => exact ⟨rfl, rfl⟩
  | c _ _ ih => exact ⟨by simp [ih.1], ih.2⟩
  | agg _ _ ih => exact ⟨by simp [ih.1], ih.2⟩
  | bx _ _ _ _ ih => exact ⟨by simp [ih.1], by simp [nBx, ih.2]⟩
theorem start_ok {A B : Nat → Prop} {bs : List Nat} {vals : List Value} {w : World} {ds : List DA} {ek : EK} {nt : Nat} (h : ArgsRep w A B vals ds bs) (hnd : bs.Nodup) (hA : ∀ j, A j → j < w.heap.size) (hBA : ∀ j, B j → A j) (hgl : GlW ek w bs) (hn : ds.length ≤ nt) :
    Sat ⟨ek, w.heap.size, nB w B, fun _ h => .inl h, bs, w, nt, A, hgl⟩ (argSt ds 0 0 []) { tmps := vals.toArray ++ Array.replicate (nt - vals.toArray.size) undef, defers := [] } w (g0 A bs) := by
  have hi := argSt_ok (bs := bs) (vals := vals) h hBA [] 0 0 rfl rfl (Nat.zero_le _) ⟨fun k x hk => (by cases hk), fun i => rfl, fun k cs hk => (by cases hk), fun k hk => by omega⟩
  have hl := h.len.1
  have hbb : ∀ {k n : Nat}, bs[k]? = some n → (g0 A bs).bb k = n := fun {k n} hk => by show bs.getD k 0 = n; rw [List.getD_eq_getElem?_getD, hk]; rfl
  refine ⟨Chg.refl _ _, rfl, rfl, by simp; omega, fun t x hx => ?_, fun i own fr d hd => (by rw [hi.row] at hd; cases hd), fun b cs hb => ?_, fun i hd => hd.elim, fun i hd => hi.dbx i hd, hA,
    fun i j fr d fr' d' b _ hd => (by rw [hi.row] at hd; cases hd), fun b c cs cs' hbc hb hc => ?_, fun i b fr d cs hd => (by rw [hi.row] at hd; cases hd), fun j n hj => ⟨(List.getElem?_eq_some_iff.1 hj).1, hbb hj⟩, fun j hj => .inl hj⟩
  · have e : (vals.toArray ++ Array.replicate (nt - vals.toArray.size) undef).getD t undef = vals.getD t undef := by
      rw [Array.getD_eq_getD_getElem?, List.getD_eq_getElem?_getD, Array.getElem?_append]
      by_cases ht : t < vals.length
      · simp [ht]
      · simp only [List.size_toArray, ht, if_false]
        rw [List.getElem?_eq_none (by omega : vals.length ≤ t)]
        by_cases h2 : t - vals.length < nt - vals.length
        · simp [Array.getElem?_replicate, h2]
        · simp [Array.getElem?_replicate, h2]
    rw [e]
    exact hi.tmp t x hx
  · obtain ⟨hk, n, us, ty, h1, h2, h3, h4⟩ := hi.box b cs hb
    refine ⟨hk, us, ty, by rw [hbb h1]; exact h2, h3, by rw [hbb h1]; exact h4, .inr ?_⟩
    rw [hbb h1]
    exact List.mem_of_getElem? h1
  · obtain ⟨_, n, _, _, h1, _⟩ := hi.box b cs hb
    obtain ⟨_, m, _, _, h2, _⟩ := hi.box c cs' hc
    rw [hbb h1, hbb h2]
    intro e
    subst e
    exact hbc ((List.getElem?_inj (List.getElem?_eq_some_iff.1 h1).1 hnd).1 (h1.trans h2.symm))

/-! ### The end -/
section
variable {P : Program} {cx : Cx} {F : Fr} {σ : St} {a : Act} {w : World} {g : Gm}
theorem row_out (h : Sat F σ a w g) {i : Nat} {own fr : Bool} {d : Row} (hi : get σ (.r i) = .row own fr d) {R : Nat → Prop} (h1 : ∀ j, g.G j → (fr = true → F.N j) → R j) (h2 : own = true → ∀ b, b ∈ g.ob i → R b) : RowRep w R (g.rv i) d := by
  obtain ⟨_, _, h3⟩ := h.row i own fr d hi
  cases own with
  | true => obtain ⟨⟨e, _, ho, hkb⟩, _⟩ := h3; exact ho.row (rg_all (fun j hj => h1 j hj.1 hj.2) (h2 rfl)) fun j hj => h2 rfl j (hkb.out j hj)
  | false => exact RowRep.chg (Chg.refl (fun _ => False) w) (fun _ _ h => h) (fun j hj => h1 j hj.1 hj.2) h3
def mdFr : Md → Bool
  | .fresh => true
  | .mix _ => true
  | _ => false
def isMix : Md → Bool
  | .mix _ => true
  | _ => false
structure OutOk (F : Fr) (σ : St) (g : Gm) (m : Md) (R : Nat → Prop) : Prop where
  hg : ∀ j, g.G j → (mdFr m = true → F.N j) → R j
  hr : isMix m = false → ∀ i fr d b, get σ (.r i) = .row true fr d → (mdFr m = true → fr = true) → b ∈ g.ob i → R b
theorem outC_ok (h : Sat F σ a w g) {m : Md} {R : Nat → Prop} (hR : OutOk F σ g m R) {c : Cell} {u : Value} (hu : CellRep g F.N w u c) {x : SC} (hr : (outC m c).run (get σ) = some x) : SCRep w R u x := by
  cases m with
  | mix os =>
    cases c with
    | sc v => have := run_ret hr; subst this; exact hu
    | ro fr d =>
      cases fr with
      | false => cases hr
      | true =>
        have := run_ret hr; subst this
        exact RowRep.chg (Chg.refl (fun _ => False) w) (fun _ _ h => h) (fun j hj => hR.hg j hj.1 fun _ => hj.2 rfl) hu
    | ref i => cases hr
  | fresh =>
    cases c with
    | sc v => have := run_ret hr; subst this; exact hu
    | ro fr d =>
      cases fr with
      | false => cases hr
      | true =>
        have := run_ret hr; subst this
        exact RowRep.chg (Chg.refl (fun _ => False) w) (fun _ _ h => h) (fun j hj => hR.hg j hj.1 fun _ => hj.2 rfl) hu
    | ref i =>
      have hr' := run_ask hr
      split at hr'
      · rename_i own d hd
        have := run_ret hr'; subst this
        obtain ⟨_, rfl⟩ := hu
        exact row_out h hd (fun j hj hb => hR.hg j hj fun _ => hb rfl) fun ho b hb => by subst ho; exact hR.hr rfl i _ _ b hd (fun _ => rfl) hb
      · cases hr'
  | alias =>
    cases c with
    | sc v => have := run_ret hr; subst this; exact hu
    | ro fr d =>
      have hr : (Rd.ret (SC.row d)).run (get σ) = some x := by cases fr <;> exact hr
      have := run_ret hr; subst this
      exact RowRep.chg (Chg.refl (fun _ => False) w) (fun _ _ h => h) (fun j hj => hR.hg j hj.1 fun e => by cases e) hu
    | ref i =>
      have hr' := run_ask hr
      split at hr'
      · rename_i own fr d hd
        have := run_ret hr'; subst this
        obtain ⟨_, rfl⟩ := hu
        exact row_out h hd (fun j hj hb => hR.hg j hj fun e => by cases e) fun ho b hb => by subst ho; exact hR.hr rfl i _ _ b hd (fun e => by cases e) hb
      · cases hr'
  | take =>
    cases c with
    | sc v => have := run_ret hr; subst this; exact hu
    | ro fr d => cases fr <;> cases hr
    | ref i => cases hr
  | write =>
    cases c with
    | sc v => have := run_ret hr; subst this; exact hu
    | ro fr d => cases fr <;> cases hr
    | ref i => cases hr
theorem outCs_ok (h : Sat F σ a w g) {m : Md} {R : Nat → Prop} (hR : OutOk F σ g m R) : ∀ {cs : List Cell} {us : List Value} (_ : All2 (CellRep g F.N w) us cs) {xs : List SC} (_ : (outCs m cs).run (get σ) = some xs), All2 (SCRep w R) us xs
  | [], _, .nil, xs, hr => by have := run_ret hr; subst this; exact .nil
  | c :: cs, _, .cons hu ht, xs, hr => by
    obtain ⟨x, h1, hr⟩ := run_bind_some hr
    obtain ⟨ys, h2, hr⟩ := run_bind_some hr
    have := run_ret hr; subst this
    exact .cons (outC_ok h hR hu h1) (outCs_ok h hR ht h2)
theorem outV1_ok (h : Sat F σ a w g) {m : Md} {R : Nat → Prop} (hR : OutOk F σ g m R) {c : V1} {u : Value} (hu : V1Rep g F.N w u c) {x : DA} (hr : (outV1 m c).run (get σ) = some x) : DARep w R u x := by
  cases c with
  | cell c =>
    obtain ⟨x, h1, hr⟩ := run_bind_some hr
    have := run_ret hr; subst this
    exact outC_ok h hR hu h1
  | agg cs =>
    obtain ⟨x, h1, hr⟩ := run_bind_some hr
    have := run_ret hr; subst this
    obtain ⟨us, rfl, hall⟩ := hu
    exact ⟨us, rfl, outCs_ok h hR hall h1⟩
theorem outV1s_ok (h : Sat F σ a w g) {m : Md} {R : Nat → Prop} (hR : OutOk F σ g m R) : ∀ {cs : List V1} {us : List Value} (_ : All2 (V1Rep g F.N w) us cs) {xs : List DA} (_ : (outV1s m cs).run (get σ) = some xs), All2 (DARep w R) us xs
  | [], _, .nil, xs, hr => by have := run_ret hr; subst this; exact .nil
  | c :: cs, _, .cons hu ht, xs, hr => by
    obtain ⟨x, h1, hr⟩ := run_bind_some hr
    obtain ⟨ys, h2, hr⟩ := run_bind_some hr
    have := run_ret hr; subst this
    exact .cons (outV1_ok h hR hu h1) (outV1s_ok h hR ht h2)
/-! result variables -/
def resF (tmps : Array Value) : ResultVar → Sem Value
  | .tmp t => pure (tmps.getD t undef)
  | .cell a t => do loadVar t (← asAddr (tmps.getD a undef))
theorem run_asAddr {t : TypeId} {u v : Value} {w w' : World} (h : (Instr.loadAt t u).run P w = .ok v w') : (do loadVar t (← asAddr u) : Sem Value).run P w = .ok v w' := by
  cases u with
  | pointer p =>
    cases p with
    | some ad => exact h
    | none => simp [Instr.loadAt, Instr.sureAddr] at h
  | _ => simp [Instr.loadAt, Instr.sureAddr] at h
theorem resVar_ok (htab : TabOk P cx) (h : Sat F σ a w g) {r : ResultVar} {x : AV} (hr : (resVar cx r).run (get σ) = some x) : ∃ v, (resF a.tmps r).run P w = .ok v w ∧ AVRep g F.N w v x := by
  cases r with
  | tmp t => exact ⟨_, rfl, avOf_ok h hr⟩
  | cell b ty =>
    obtain ⟨ti, h1, hr⟩ := run_bind_some hr
    obtain ⟨p, h2, hr⟩ := run_bind_some hr
    obtain ⟨v, h3, h4⟩ := load_ok h (htab.ti _ _ (run_tio h1)) (avOf_ok h h2) hr
    exact ⟨v, run_asAddr h3, h4⟩
theorem resVars_ok (htab : TabOk P cx) (h : Sat F σ a w g) : ∀ (rs : List ResultVar) (xs : List V1), (resVars cx rs).run (get σ) = some xs → ∃ vs, (rs.mapM (resF a.tmps) : Sem (List Value)).run P w = .ok vs w ∧ All2 (V1Rep g F.N w) vs xs
  | [], xs, hr => by have := run_ret hr; subst this; exact ⟨[], rfl, .nil⟩
  | r :: rs, xs, hr => by
    obtain ⟨x, h1, hr⟩ := run_bind_some hr
    obtain ⟨v, h2, h3⟩ := resVar_ok htab h h1
    split at hr
    · rename_i u
      obtain ⟨ys, h4, hr⟩ := run_bind_some hr
      have := run_ret hr; subst this
      obtain ⟨vs, h5, h6⟩ := resVars_ok htab h rs ys h4
      exact ⟨v :: vs, by simp [List.mapM_cons, h2, h5], .cons h3 h6⟩
    · cases hr
theorem run_results {fn : Func} {tmps : Array Value} {vs : List Value} (h : (fn.results.toList.mapM (resF tmps) : Sem (List Value)).run P w = .ok vs w) : (results fn tmps).run P w = .ok (tupV vs) w := by
  have e : results fn tmps = (fn.results.mapM (resF tmps) >>= fun vs => pure (if h : vs.size = 1 then vs[0] else .tuple vs)) := by
    unfold results
    congr 1
    try congr 1
    try (funext x; cases x <;> rfl)
  rw [e, Array.mapM_eq_mapM_toList]
  simp only [Sem.run_bind, Sem.run_map, h]
  cases vs with
  | nil => rfl
  | cons v vs => cases vs with
    | nil => rfl
    | cons u vs => rfl
/-! what is handed back -/
theorem outBxs_ok (h : Sat F σ a w g) {m : Md} {R : Nat → Prop} (hR : OutOk F σ g (boxMd m) R) : ∀ (n b : Nat) (xs : List (List SC)), (outBxs m n b).run (get σ) = some xs → ∀ bs : List Nat, bs.length = n → (∀ k m, bs[k]? = some m → g.bb (b + k) = m) → All2 (BxRep w R) bs xs ∧ ∀ m ∈ bs, ∃ k cs, g.bb k = m ∧ get σ (.b k) = .box cs ∧ k < b + n
  | 0, b, xs, hr, bs, hl, hb => by
    have := run_ret hr; subst this
    cases bs with
    | nil => exact ⟨.nil, fun m hm => (by cases hm)⟩
    | cons _ _ => cases hl
  | n + 1, b, xs, hr, bs, hl, hb => by
    obtain ⟨x, h1, hr⟩ := run_bind_some hr
    obtain ⟨ys, h2, hr⟩ := run_bind_some hr
    have := run_ret hr; subst this
    cases bs with
    | nil => cases hl
    | cons m bs =>
      obtain ⟨e1, e2⟩ := outBxs_ok h hR n (b + 1) ys h2 bs (by simpa using hl) fun k m' hk => by rw [← hb (k + 1) m' (by simpa using hk)]; congr 1; omega
      have hm : g.bb b = m := by have := hb 0 m rfl; simpa using this
      have h1' := run_ask h1
      split at h1'
      · rename_i cs hcs
        obtain ⟨_, us, ty, h3, h4, _⟩ := h.box b cs hcs
        refine ⟨.cons ⟨us, ty, by rw [← hm]; exact h3, outCs_ok h hR h4 h1'⟩ e1, fun m' hm' => ?_⟩
        rcases List.mem_cons.1 hm' with rfl | hm'
        · exact ⟨b, cs, hm, hcs, by omega⟩
        · obtain ⟨k, cs, q1, q2, q3⟩ := e2 m' hm'
          exact ⟨k, cs, q1, q2, by omega⟩
      · cases h1'
/-- What is given away. -/
def ownBs (g : Gm) (l : List Nat) : List Nat := l.flatMap g.ob
theorem outMs_ok (h : Sat F σ a w g) {ek : EK} (hek : F.ek = ek) {A G' : Nat → Prop} {O : List Nat} (hG : ∀ j, g.G j → F.N j → G' j) (hGA : ∀ j, g.G j → A j ∨ G' j) (hO : ∀ i fr d b, i ∉ O → get σ (.r i) = .row true fr d → b ∈ g.ob i → G' b) :
    ∀ {cs : List Cell} {us : List Value} (_ : All2 (CellRep g F.N w) us cs) {os : List RF} {p : List SC × Mx} (_ : (outMs cs os).run (get σ) = some p), (∀ i ∈ p.2.reads, i ∉ O) → SMix ek w A G' us p.1 os p.2.os (ownBs g p.2.owns) ∧ ∀ i ∈ p.2.owns, ∃ d, get σ (.r i) = .row true true d
  | [], _, .nil, os, p, hr, _ => by
    have := run_ret hr; subst this
    exact ⟨.nil, fun i hi => (by cases hi)⟩
  | .sc v :: cs, _, .cons hu ht, os, p, hr, hrd => by
    obtain ⟨q, hq, hr⟩ := run_bind_some hr
    have := run_ret hr; subst this
    obtain ⟨e1, e2⟩ := outMs_ok h hek hG hGA hO ht hq hrd
    cases hu
    exact ⟨.sc e1, e2⟩
  | .ro fr d :: cs, _, .cons hu ht, os, p, hr, hrd => by
    cases os with
    | nil => cases fr <;> cases hr
    | cons o os => cases o with
      | own => cases fr <;> cases hr
      | new => cases fr with
        | false => cases hr
        | true =>
          obtain ⟨q, hq, hr⟩ := run_bind_some hr
          have := run_ret hr; subst this
          obtain ⟨e1, e2⟩ := outMs_ok h hek hG hGA hO ht hq hrd
          exact ⟨.ro (RowRep.chg (Chg.refl (fun _ => False) w) (fun _ _ h => h) (fun j hj => hG j hj.1 (hj.2 rfl)) hu) e1, e2⟩
      | any =>
        have hr : ((outMs cs os).bind fun p => .ret (.row d :: p.1, p.2)).run (get σ) = some p := by cases fr <;> exact hr
        obtain ⟨q, hq, hr⟩ := run_bind_some hr
        have := run_ret hr; subst this
        obtain ⟨e1, e2⟩ := outMs_ok h hek hG hGA hO ht hq hrd
        exact ⟨.any (RowRep.chg (Chg.refl (fun _ => False) w) (fun _ _ h => h) (fun j hj => hGA j hj.1) hu) e1, e2⟩
  | .ref i :: cs, _, .cons hu ht, os, p, hr, hrd => by
    cases os with
    | nil => cases hr
    | cons o os => cases o with
      | new =>
        have hr' := run_ask hr
        split at hr'
        · rename_i own d hd
          obtain ⟨q, hq, hr⟩ := run_bind_some hr'
          have := run_ret hr; subst this
          obtain ⟨e1, e2⟩ := outMs_ok h hek hG hGA hO ht hq fun i hi => hrd i (List.mem_cons_of_mem _ hi)
          obtain ⟨_, rfl⟩ := hu
          exact ⟨.ro (row_out h hd (fun j hj hb => hG j hj (hb rfl)) fun ho b hb => by subst ho; exact hO i _ _ b (hrd i List.mem_cons_self) hd hb) e1, e2⟩
        · cases hr'
      | any =>
        have hr' := run_ask hr
        split at hr'
        · rename_i own fr d hd
          obtain ⟨q, hq, hr⟩ := run_bind_some hr'
          have := run_ret hr; subst this
          obtain ⟨e1, e2⟩ := outMs_ok h hek hG hGA hO ht hq fun i hi => hrd i (List.mem_cons_of_mem _ hi)
          obtain ⟨_, rfl⟩ := hu
          exact ⟨.any (row_out h hd (fun j hj _ => hGA j hj) fun ho b hb => by subst ho; exact .inr (hO i _ _ b (hrd i List.mem_cons_self) hd hb)) e1, e2⟩
        · cases hr'
      | own =>
        have hr' := run_ask hr
        split at hr'
        · rename_i d hd
          obtain ⟨q, hq, hr⟩ := run_bind_some hr'
          have := run_ret hr; subst this
          obtain ⟨e1, e2⟩ := outMs_ok h hek hG hGA hO ht hq hrd
          obtain ⟨_, rfl⟩ := hu
          obtain ⟨_, _, ⟨e, he, hown, hkb⟩, _⟩ := h.row i _ _ _ hd
          refine ⟨.own (by rw [← hek]; exact he) (hown.chg (Chg.refl (fun _ => False) w) (fun _ _ h => h) (rg_mono fun j hj => hG j hj.1 (hj.2 rfl)) fun _ _ h => h) hkb e1, fun i' hi' => ?_⟩
          rcases List.mem_cons.1 hi' with rfl | hi'
          · exact ⟨d, hd⟩
          · exact e2 i' hi'
        · cases hr'
theorem outMV_ok (h : Sat F σ a w g) {ek : EK} (hek : F.ek = ek) {A G' : Nat → Prop} {O : List Nat} (hG : ∀ j, g.G j → F.N j → G' j) (hGA : ∀ j, g.G j → A j ∨ G' j) (hO : ∀ i fr d b, i ∉ O → get σ (.r i) = .row true fr d → b ∈ g.ob i → G' b) :
    ∀ {cs : List V1} {us : List Value} (_ : All2 (V1Rep g F.N w) us cs) {os : List RF} {p : List DA × Mx} (_ : (outMV cs os).run (get σ) = some p), (∀ i ∈ p.2.reads, i ∉ O) → DMix ek w A G' us p.1 os (ownBs g p.2.owns) ∧ ∀ i ∈ p.2.owns, ∃ d, get σ (.r i) = .row true true d
  | [], _, .nil, os, p, hr, _ => by
    have := run_ret hr; subst this
    exact ⟨.nil, fun i hi => (by cases hi)⟩
  | .cell c :: cs, _, .cons hu ht, os, p, hr, hrd => by
    obtain ⟨q, hq, hr⟩ := run_bind_some hr
    split at hr
    · rename_i x hx
      obtain ⟨q2, hq2, hr⟩ := run_bind_some hr
      have := run_ret hr; subst this
      obtain ⟨e1, e2⟩ := outMs_ok h hek hG hGA hO (.cons hu .nil) hq fun i hi => hrd i (List.mem_append_left _ hi)
      obtain ⟨e3, e4⟩ := outMV_ok h hek hG hGA hO ht hq2 fun i hi => hrd i (List.mem_append_right _ hi)
      rw [hx] at e1
      have e5 := DMix.c e1 e3
      refine ⟨?_, fun i hi => (List.mem_append.1 hi).elim (e2 i) (e4 i)⟩
      simp only [ownBs, List.flatMap_append]
      exact e5
    · cases hr
  | .agg xs :: cs, _, .cons hu ht, os, p, hr, hrd => by
    obtain ⟨q, hq, hr⟩ := run_bind_some hr
    obtain ⟨q2, hq2, hr⟩ := run_bind_some hr
    have := run_ret hr; subst this
    obtain ⟨us0, rfl, hall⟩ := hu
    obtain ⟨e1, e2⟩ := outMs_ok h hek hG hGA hO hall hq fun i hi => hrd i (List.mem_append_left _ hi)
    obtain ⟨e3, e4⟩ := outMV_ok h hek hG hGA hO ht hq2 fun i hi => hrd i (List.mem_append_right _ hi)
    have e5 := DMix.agg e1 e3
    refine ⟨?_, fun i hi => (List.mem_append.1 hi).elim (e2 i) (e4 i)⟩
    simp only [ownBs, List.flatMap_append]
    exact e5
theorem ownBs_nodup (h : Sat F σ a w g) : ∀ (l : List Nat), l.Nodup → (∀ i ∈ l, ∃ d, get σ (.r i) = .row true true d) → (ownBs g l).Nodup ∧ ∀ b, b ∈ ownBs g l → ∃ i ∈ l, b ∈ g.ob i
  | [], _, _ => ⟨by simp [ownBs], fun b hb => by simp [ownBs] at hb⟩
  | i :: l, hn, hd => by
    obtain ⟨e1, e2⟩ := ownBs_nodup h l (List.nodup_cons.1 hn).2 fun j hj => hd j (List.mem_cons_of_mem _ hj)
    refine ⟨?_, fun b hb => ?_⟩
    · show (g.ob i ++ ownBs g l).Nodup
      rw [List.nodup_append]
      obtain ⟨d0, hd0⟩ := hd i List.mem_cons_self
      obtain ⟨_, _, ⟨_, _, _, hkb⟩, _⟩ := h.row i _ _ _ hd0
      refine ⟨hkb.nodup, e1, fun b hb c hc e => ?_⟩
      subst e
      obtain ⟨j, hj, hjb⟩ := e2 b hc
      obtain ⟨d, hd1⟩ := hd i List.mem_cons_self
      obtain ⟨d', hd2⟩ := hd j (List.mem_cons_of_mem _ hj)
      exact h.sepR i j _ _ _ _ b (fun e => (List.nodup_cons.1 hn).1 (e ▸ hj)) hd1 hd2 hb hjb
    · have hb : b ∈ g.ob i ++ ownBs g l := hb
      rcases List.mem_append.1 hb with hb | hb
      · exact ⟨i, List.mem_cons_self, hb⟩
      · obtain ⟨j, hj, hjb⟩ := e2 b hb
        exact ⟨j, List.mem_cons_of_mem _ hj, hjb⟩
theorem nodupB_nodup : ∀ (l : List Nat), nodupB l = true → l.Nodup
  | [], _ => .nil
  | n :: l, h => by
    simp only [nodupB, Bool.and_eq_true, Bool.not_eq_true', List.any_eq_false] at h
    exact List.nodup_cons.2 ⟨fun hm => h.1 n hm (Nat.beq_refl n), nodupB_nodup l h.2⟩
theorem fin_ok (htab : TabOk P cx) (h : Sat F σ a w g) (hek : F.ek = cx.ek) {fi : FnI} {fn : Func} (hres : fn.results.toList = fi.res) (hnb : F.pb.length = fi.nb) (hAlt : ∀ j, F.A j → j < F.base) {B : Nat → Prop} (hBA : ∀ j, B j → F.A j) (hNb : ∀ j, F.N j → F.base ≤ j ∨ B j) {r : List DA × List (List SC)} (hr : (finR cx fi).run (get σ) = some r) :
    ∃ v, (results fn a.tmps).run P w = .ok v w ∧ Post cx.ek F.w0 F.A B F.pb ⟨true, r.1, r.2, fi.mode⟩ (.returned v) w := by
  obtain ⟨res, h1, hr⟩ := run_bind_some hr
  obtain ⟨outs, h2, hr⟩ := run_bind_some hr
  have := run_ret hr; subst this
  have hbase := h.base
  -- the boxes that were lent are there
  have hboxes : ∀ m ∈ F.pb, ∃ k cs, g.bb k = m ∧ get σ (.b k) = .box cs ∧ k < 0 + fi.nb := (outBxs_ok h (R := fun _ => True) ⟨fun _ _ _ => trivial, fun _ _ _ _ _ _ _ _ => trivial⟩ _ _ _ h2 F.pb hnb fun k m hk => by rw [Nat.zero_add]; exact (h.pb k m hk).2).2
  have hMg : ∀ j, F.M j → ¬ g.G j := fun j hj hg => by
    obtain ⟨k, cs, hk, hcs, _⟩ := hboxes j hj
    obtain ⟨_, _, _, _, _, h4, _⟩ := h.box k cs hcs
    exact h4 (hk ▸ hg)
  have hMr : ∀ i fr d b, get σ (.r i) = .row true fr d → b ∈ g.ob i → F.base ≤ b := fun i fr d b hi hb => by
    obtain ⟨_, _, _, h3⟩ := h.row i _ _ _ hi
    rcases (h3 b hb).2.1 with hb' | hb'
    · exact hb'
    · obtain ⟨k, cs, hk, hcs, _⟩ := hboxes b hb'
      exact absurd (by rw [hk]; exact hb) (h.sepRB i k fr d cs hi hcs)
  -- new blocks without one that is given
  have key : ∀ (X : Nat → Prop), (∀ j, X j → ¬ g.G j) → (∀ i fr d b, get σ (.r i) = .row true fr d → b ∈ g.ob i → ¬ X b) → ∀ G' : Nat → Prop, G' = (fun j => ((F.base ≤ j ∧ j < w.heap.size) ∧ ¬ X j) ∨ B j) →
      OutOk F σ g .alias (fun j => F.A j ∨ G' j) ∧ OutOk F σ g .fresh G' ∧ (∀ os, OutOk F σ g (.mix os) G') ∧ (∀ j, G' j → (F.w0.heap.size ≤ j ∧ j < w.heap.size) ∨ B j) := fun X hX1 hX2 G' hG' => by
    subst hG'
    have hN : ∀ j, g.G j → F.N j → ((F.base ≤ j ∧ j < w.heap.size) ∧ ¬ X j) ∨ B j := fun j hj hb => (hNb _ hb).imp (fun h1 => ⟨⟨h1, h.gb j hj⟩, fun hx => hX1 j hx hj⟩) fun h => h
    refine ⟨⟨fun j hj _ => ?_, fun _ i fr d b hi _ hb => .inr (.inl ⟨⟨hMr i fr d b hi hb, h.own_lt hi hb⟩, hX2 i fr d b hi hb⟩)⟩, ⟨fun j hj hb => hN j hj (hb rfl), fun _ i fr d b hi _ hb => .inl ⟨⟨hMr i fr d b hi hb, h.own_lt hi hb⟩, hX2 i fr d b hi hb⟩⟩, fun os => ⟨fun j hj hb => hN j hj (hb rfl), fun e => by cases e⟩, fun j hj => hj.imp (fun hj => ⟨by rw [← hbase]; exact hj.1.1, hj.1.2⟩) fun h => h⟩
    rcases h.ga j hj with hA | hM | hb
    · exact .inl hA
    · exact absurd hj (hMg j hM)
    · exact .inr (.inl ⟨⟨hb, h.gb j hj⟩, fun hx => hX1 j hx hj⟩)
  have houts : ∀ {R : Nat → Prop}, OutOk F σ g (boxMd fi.mode) R → All2 (BxRep w R) F.pb outs := fun hR => (outBxs_ok h hR _ _ _ h2 F.pb hnb fun k m hk => by rw [Nat.zero_add]; exact (h.pb k m hk).2).1
  have hchg : Chg (fun j => j ∈ F.pb) F.w0 w := h.chg
  have keyF := key (fun _ => False) (fun _ h => h.elim) (fun _ _ _ _ _ _ h => h) _ rfl
  have gen : ∀ (m : Md) (rs : List ResultVar), rs = fi.res → fi.mode = m → (m = .fresh ∨ m = .alias) → ∀ us, (resVars cx rs).run (get σ) = some us → (outV1s m us).run (get σ) = some res → (∀ cs, res = [.bx cs] → False) →
      ∃ v, (results fn a.tmps).run P w = .ok v w ∧ Post cx.ek F.w0 F.A B F.pb ⟨true, res, outs, fi.mode⟩ (.returned v) w := by
    intro m rs hrs hm hm2 us hus hout hnb'
    obtain ⟨vs, e1, e2⟩ := resVars_ok htab h rs us hus
    refine ⟨tupV vs, run_results (by rw [hres, ← hrs]; exact e1), tupV vs, rfl, hchg, _, keyF.2.2.2, houts (by rw [hm]; rcases hm2 with rfl | rfl <;> exact keyF.2.1), ?_⟩
    rcases hm2 with rfl | rfl
    · rw [hm]
      have e3 := outV1s_ok h keyF.2.1 e2 hout
      cases hres : res with
      | nil => rw [hres] at e3; exact ⟨vs, rfl, e3⟩
      | cons x l => rw [hres] at e3 hnb'; cases x with
        | c y => exact ⟨vs, rfl, e3⟩
        | agg y => exact ⟨vs, rfl, e3⟩
        | bx y => cases l with
          | nil => exact absurd rfl (hnb' y)
          | cons z l => exact ⟨vs, rfl, e3⟩
    · rw [hm]
      have e3 := outV1s_ok h keyF.1 e2 hout
      cases hres : res with
      | nil => rw [hres] at e3; exact ⟨vs, rfl, e3⟩
      | cons x l => rw [hres] at e3 hnb'; cases x with
        | c y => exact ⟨vs, rfl, e3⟩
        | agg y => exact ⟨vs, rfl, e3⟩
        | bx y => cases l with
          | nil => exact absurd rfl (hnb' y)
          | cons z l => exact ⟨vs, rfl, e3⟩
  have nobx : ∀ (m : Md) (us : List V1), (outV1s m us).run (get σ) = some res → ∀ cs, res = [.bx cs] → False := by
    intro m us hu cs hc
    cases us with
    | nil => have := run_ret hu; rw [← this] at hc; cases hc
    | cons u us =>
      obtain ⟨x, h3, hu⟩ := run_bind_some hu
      obtain ⟨ys, h4, hu⟩ := run_bind_some hu
      have := run_ret hu
      rw [← this] at hc
      cases hc
      cases u with
      | cell c => obtain ⟨x, h5, h3⟩ := run_bind_some h3; have := run_ret h3; cases this
      | agg c => obtain ⟨x, h5, h3⟩ := run_bind_some h3; have := run_ret h3; cases this
  cases hm : fi.mode with
  | fresh =>
    unfold resOf at h1
    rw [hm] at h1
    obtain ⟨us, hus, h1⟩ := run_bind_some h1
    have := gen .fresh fi.res rfl hm (.inl rfl) us hus h1 (nobx _ _ h1)
    rw [hm] at this
    exact this
  | mix os =>
    rw [hm] at h1
    obtain ⟨us, hus, h1⟩ := run_bind_some h1
    obtain ⟨q, hq, h1⟩ := run_bind_some h1
    obtain ⟨ht, h1⟩ := run_test h1
    have := run_ret h1; subst this
    simp only [Bool.and_eq_true, List.all_eq_true, Bool.not_eq_true', List.any_eq_false] at ht
    obtain ⟨ht1, ht2⟩ := ht
    obtain ⟨vs, e1, e2⟩ := resVars_ok htab h _ _ hus
    let G' : Nat → Prop := fun j => ((F.base ≤ j ∧ j < w.heap.size) ∧ ¬ ∃ i ∈ q.2.owns, (∃ fr d, get σ (.r i) = .row true fr d) ∧ j ∈ g.ob i) ∨ B j
    have hX : ∀ j, g.G j → ¬ ∃ i ∈ q.2.owns, (∃ fr d, get σ (.r i) = .row true fr d) ∧ j ∈ g.ob i := fun j hj hx => by
      obtain ⟨i, _, ⟨fr, d, hd⟩, hb⟩ := hx
      obtain ⟨_, _, _, h5⟩ := h.row i _ _ _ hd
      exact (h5 j hb).1 hj
    have hG1 : ∀ j, g.G j → F.base ≤ j → G' j := fun j hj hb => .inl ⟨⟨hb, h.gb j hj⟩, hX j hj⟩
    have hG2 : ∀ i fr d b, i ∉ q.2.owns → get σ (.r i) = .row true fr d → b ∈ g.ob i → G' b := fun i fr d b hi hd hb => .inl ⟨⟨hMr i fr d b hd hb, h.own_lt hd hb⟩, fun hx => by
      obtain ⟨i', hi', ⟨fr', d', hd'⟩, hb'⟩ := hx
      exact h.sepR i i' _ _ _ _ b (fun e => hi (e ▸ hi')) hd hd' hb hb'⟩
    have hGA : ∀ j, g.G j → F.A j ∨ G' j := fun j hj => by
      rcases h.ga j hj with hA | hM | hb
      · exact .inl hA
      · exact absurd hj (hMg j hM)
      · exact .inr (hG1 j hj hb)
    obtain ⟨e3, e4⟩ := outMV_ok (ek := cx.ek) h hek (fun j hj hn => (hNb _ hn).elim (hG1 j hj) .inr) hGA hG2 e2 hq fun i hi hn => ht2 i hi i hn (Nat.beq_refl i)
    have hnd : q.2.owns.Nodup := nodupB_nodup _ ht1
    obtain ⟨e5, e6⟩ := ownBs_nodup h _ hnd e4
    refine ⟨tupV vs, run_results (by rw [hres]; exact e1), tupV vs, rfl, hchg, G', fun j hj => hj.imp (fun hj => ⟨by rw [← hbase]; exact hj.1.1, hj.1.2⟩) fun h => h, houts (by
      rw [hm]
      exact ⟨fun j hj hb => (hNb _ (hb rfl)).elim (hG1 j hj) .inr, fun e => by cases e⟩), vs, _, rfl, e3, e5, fun b hb => ?_⟩
    obtain ⟨i, hi, hib⟩ := e6 b hb
    obtain ⟨d, hd⟩ := e4 i hi
    exact ⟨by rw [← hbase]; exact hMr i _ _ b hd hib, fun hg => hg.elim (fun hg => hg.2 ⟨i, hi, ⟨_, _, hd⟩, hib⟩) fun hB => absurd (hAlt _ (hBA _ hB)) (Nat.not_lt.2 (hMr i _ _ b hd hib))⟩
  | take => rw [hm] at h1; cases h1
  | write => rw [hm] at h1; cases h1
  | alias =>
    rw [hm] at h1
    by_cases hone : ∃ r, fi.res = [r]
    · obtain ⟨r, hrs⟩ := hone
      rw [hrs] at h1
      obtain ⟨x, h3, h1⟩ := run_bind_some h1
      obtain ⟨v, e1, e2⟩ := resVar_ok htab h h3
      have hrun : (results fn a.tmps).run P w = .ok v w := run_results (vs := [v]) (by rw [hres, hrs]; simp [List.mapM_cons, e1])
      split at h1
      · rename_i u
        obtain ⟨y, h4, h1⟩ := run_bind_some h1
        have := run_ret h1; subst this
        have e3 := outV1_ok h keyF.1 e2 h4
        refine ⟨v, hrun, v, rfl, hchg, _, keyF.2.2.2, houts (by rw [hm]; exact keyF.2.1), ?_⟩
        cases y with
        | c z => exact ⟨[v], rfl, .cons e3 .nil⟩
        | agg z => exact ⟨[v], rfl, .cons e3 .nil⟩
        | bx z => exact e3.elim
      · rename_i b
        obtain ⟨hle, h1⟩ := run_test h1
        have hle : fi.nb ≤ b := by simpa using hle
        obtain ⟨y, h4, h1⟩ := run_bind_some h1
        have := run_ret h1; subst this
        have h4' := run_ask h4
        split at h4'
        · rename_i cs hcs
          obtain ⟨_, us, ty, q1, q2, q3, q4⟩ := h.box b cs hcs
          obtain ⟨_, rfl⟩ := e2
          have keyX := key (fun j => j = g.bb b) (fun j hj => by rw [hj]; exact q3) (fun i fr d b' hi hb' e => h.sepRB i b fr d cs hi hcs (by rw [← e]; exact hb')) _ rfl
          have hnew : F.base ≤ g.bb b := by
            rcases q4 with q | q
            · exact q
            · obtain ⟨k, cs2, hk, hcs2, hlt⟩ := hboxes _ q
              exact absurd hk (h.sepB k b cs2 cs (by omega) hcs2 hcs)
          refine ⟨_, hrun, _, rfl, hchg, _, keyX.2.2.2, houts (by rw [hm]; exact keyX.2.1), _, rfl, by rw [← hbase]; exact hnew, fun hg => hg.elim (fun hg => hg.2 rfl) fun hB => absurd (hAlt _ (hBA _ hB)) (Nat.not_lt.2 hnew), us, ty, q1, outCs_ok h keyX.1 q2 h4'⟩
        · cases h4'
      · cases h1
    · have h1 : ((resVars cx fi.res).bind fun us => outV1s .alias us).run (get σ) = some res := by
        cases hrs : fi.res with
        | nil => rw [hrs] at h1; exact h1
        | cons r l => cases l with
          | nil => exact absurd ⟨r, hrs⟩ hone
          | cons r2 l => rw [hrs] at h1; exact h1
      obtain ⟨us, hus, h1⟩ := run_bind_some h1
      have := gen .alias fi.res rfl hm (.inr rfl) us hus h1 (nobx _ _ h1)
      rw [hm] at this
      exact this
theorem runF_give {cx : Cx} {fi : FnI} {n : Nat} {args : List DA} {r : List DA × List (List SC)} (hr : runF cx fi n args = some r) : isGive fi.mode = false := by
  unfold runF at hr
  split at hr
  · rename_i hc
    simp only [Bool.and_eq_true, Bool.not_eq_true'] at hc
    exact hc.2
  · cases hr
/-- A function: its run is what the executor finds. -/
theorem runF_ok (htab : TabOk P cx) (hΦ : Sound P cx.ek cx.Φ) (hmix : P.follows .mixedOrders = true) {fi : FnI} (hf : FnOk P fi) {n : Nat} {args : List DA} {res : List DA} {outs : List (List SC)} (hr : runF cx fi n args = some (res, outs))
    {A B : Nat → Prop} {vals : List Value} {bs : List Nat} (hargs : ArgsRep w A B vals args bs) (hnd : bs.Nodup) (hA : ∀ j, A j → j < w.heap.size) (hBA : ∀ j, B j → A j) (hgl : GlW cx.ek w bs) : Calls P fi.f vals.toArray w (Post cx.ek w A B bs ⟨true, res, outs, fi.mode⟩) := by
  obtain ⟨fn, h1, h2, h3, h4, _⟩ := hf.ex
  unfold runF at hr
  split at hr
  · rename_i hc
    simp only [Bool.and_eq_true] at hc
    replace hc := hc.1
    have hnb : fi.nb = bs.length := by rw [hargs.len.2]; exact (Nat.eq_of_beq_eq_true hc.1).symm
    have hs := start_ok (ek := cx.ek) (nt := fi.nt) hargs hnd hA hBA hgl (by simpa using hc.2)
    refine calls_of_wp h1 h2 ?_
    rw [h3]
    refine wp_mono (cxK_ok (F := ⟨cx.ek, w.heap.size, nB w B, fun _ h => .inl h, bs, w, fi.nt, A, hgl⟩) ⟨htab, hΦ, rfl, rfl, hnb, hmix⟩ n fi.body _ _ _ _ _ _ _ hr hs) fun e a' w' hq => ?_
    have fin : ∀ σ' g', finK cx fi σ' = some (res, outs) → Sat ⟨cx.ek, w.heap.size, nB w B, fun _ h => .inl h, bs, w, fi.nt, A, hgl⟩ σ' a' w' g' → a'.defers = [] ∧ ∃ v, (results fn a'.tmps).run P w' = .ok v w' ∧ Post cx.ek w A B bs ⟨true, res, outs, fi.mode⟩ (.returned v) w' := fun σ' g' hk hs' => by
      obtain ⟨x, hx1, hx2⟩ := runK_some hk
      cases hx2
      exact ⟨hs'.defs, fin_ok htab hs' rfl h4 hnb.symm hA hBA (fun _ h => h) hx1⟩
    cases e with
    | normal => obtain ⟨σ', g', hk, hs'⟩ := hq; exact fin σ' g' hk hs'
    | ret => obtain ⟨σ', g', hk, hs'⟩ := hq; exact fin σ' g' hk hs'
    | exit i => obtain ⟨σ', g', hk, hs'⟩ := hq; cases hk
    | goto l => exact hq.elim
    | panic ch => exact hq.elim
    | outgrown => exact hq.elim
  · cases hr
end
/-- The oracle, with one more function. -/
def ext (Φ : FuncId → List DA → Option Sp) (f : FuncId) (S : List DA → Option Sp) : FuncId → List DA → Option Sp := fun h args => match Nat.beq f h with
  | true => S args
  | false => Φ h args
theorem ext_ok {P : Program} {cx : Cx} (htab : TabOk P cx) (hΦ : Sound P cx.ek cx.Φ) (hmix : P.follows .mixedOrders = true) {fi : FnI} (hf : FnOk P fi) {S : List DA → Option Sp}
    (hS : ∀ args sp, S args = some sp → sp.pre = true → sp.mode = fi.mode ∧ ∃ n, runF cx fi n args = some (sp.res, sp.outs)) : Sound P cx.ek (ext cx.Φ fi.f S) := by
  intro f args sp hsp hpre
  unfold ext at hsp
  split at hsp
  · rename_i he
    have he : fi.f = f := Nat.eq_of_beq_eq_true he
    subst he
    obtain ⟨hm, n, hn⟩ := hS args sp hsp hpre
    obtain ⟨fn, h1, h2, _, _, h5⟩ := hf.ex
    refine ⟨⟨fn, h1, by rw [h2]; rfl, h5⟩, fun _ w A B vals bs hargs hnd hA hBA hgl => ?_, fun hg => by rw [hm, runF_give hn] at hg; cases hg⟩
    have := runF_ok htab hΦ hmix hf hn hargs hnd hA hBA hgl
    obtain ⟨p, r, o, m⟩ := sp
    simp only at hm hpre
    subst hm hpre
    exact this
  · exact hΦ f args sp hsp hpre
end Vx
/- The tables of types, checked against a program. -/
namespace Vx
open Go Go.RowKit

def ikB (v : Value) (k : IntKind) : Bool := match v with
  | .int l n => IntKind.eqb l k && (match n with
    | .ofNat m => Nat.beq m 0
    | _ => false)
  | _ => false
def strB (v : Value) : Bool := match v with
  | .string s => Nat.beq s.data.size 0
  | _ => false
def nilB (v : Value) : Bool := match v with
  | .slice none 0 0 => true
  | _ => false
def zvB (v : Value) : ZC → Bool
  | .int k => ikB v k
  | .bool => match v with
    | .bool false => true
    | _ => false
  | .str => strB v
  | .nil _ => nilB v
theorem ikB_ok {v : Value} {k : IntKind} (h : ikB v k = true) : v = .int k 0 := by
  unfold ikB at h
  split at h
  · simp only [Bool.and_eq_true] at h
    obtain ⟨h1, h2⟩ := h
    have := IntKind.eqb_iff.1 h1
    subst this
    split at h2
    · have := Nat.eq_of_beq_eq_true h2
      subst this
      rfl
    · cases h2
  · cases h
theorem strB_ok {v : Value} (h : strB v = true) : v = .string ⟨#[]⟩ := by
  unfold strB at h
  split at h
  · rename_i s
    have := Nat.eq_of_beq_eq_true h
    have e : s.data = #[] := Array.eq_empty_of_size_eq_zero this
    cases s
    simp only at e
    rw [e]
  · cases h
theorem nilB_ok {v : Value} (h : nilB v = true) : v = .slice none 0 0 := by
  unfold nilB at h
  split at h
  · rfl
  · cases h
theorem zvB_ok {v : Value} {z : ZC} (h : zvB v z = true) : v = zval z := by
  cases z with
  | int k => exact ikB_ok h
  | bool =>
    simp only [zvB] at h
    split at h
    · rfl
    · cases h
  | str => exact strB_ok h
  | nil k => exact nilB_ok h
def all2B {α β : Type} (f : α → β → Bool) : List α → List β → Bool
  | [], [] => true
  | a :: as, b :: bs => f a b && all2B f as bs
  | _, _ => false
theorem all2B_ok {α β : Type} {f : α → β → Bool} : ∀ {as : List α} {bs : List β}, all2B f as bs = true → All2 (fun a b => f a b = true) as bs
  | [], [], _ => .nil
  | [], _ :: _, h => by cases h
  | _ :: _, [], h => by cases h
  | _ :: _, _ :: _, h => by
    simp only [all2B, Bool.and_eq_true] at h
    exact .cons h.1 (all2B_ok h.2)
theorem all2_map {α β : Type} {f : β → α} {as : List α} {bs : List β} (h : All2 (fun a b => a = f b) as bs) : as = bs.map f := by
  induction h with
  | nil => rfl
  | cons h _ ih => rw [List.map_cons, h, ih]
def fldB (P : Program) (f : Field) (p : Nat × Nat) : Bool := Nat.beq f.offset p.1 && (match P.info? f.type with
  | some i => Nat.beq i.size p.2
  | none => false)
def undB (P : Program) (t : TypeId) (k : TK) : Bool := match P.underlying t, k with
  | some (.int k), .int l => IntKind.eqb k l
  | some .bool, .bool => true
  | some .string, .str => true
  | some (.slice e), .slice e' => Nat.beq e e'
  | some (.struct fields), .struct fs => all2B (fldB P) fields.toList fs
  | some (.array n e), .arr k e' n' => Nat.beq n n' && (Nat.beq e e' && (match P.underlying e with
    | some (.int l) => IntKind.eqb l k
    | _ => false))
  | _, _ => false
def tiB (P : Program) (p : TypeId × TI) : Bool := (match P.info? p.1 with
  | some i => Nat.beq i.size p.2.size && (Nat.beq i.bytes p.2.bytes && (match i.zero with
    | some z => all2B zvB z.cells.toList p.2.zc
    | none => false))
  | none => false) && undB P p.1 p.2.k
theorem tiB_ok {P : Program} {t : TypeId} {ti : TI} (h : tiB P (t, ti) = true) : TIok P t ti := by
  simp only [tiB, Bool.and_eq_true] at h
  obtain ⟨h1, h2⟩ := h
  constructor
  · split at h1
    · rename_i i hi
      simp only [Bool.and_eq_true] at h1
      obtain ⟨a, b, c⟩ := h1
      split at c
      · rename_i z hz
        exact ⟨i, z, hi, Nat.eq_of_beq_eq_true a, Nat.eq_of_beq_eq_true b, hz, all2_map ((all2B_ok c).imp fun _ _ h => zvB_ok h)⟩
      · cases c
    · cases h1
  · unfold undB at h2
    split at h2
    · rename_i hu hk
      rw [hk]
      have := IntKind.eqb_iff.1 h2
      subst this
      exact hu
    · rename_i hu hk; rw [hk]; exact hu
    · rename_i hu hk; rw [hk]; exact hu
    · rename_i hu hk
      rw [hk]
      have := Nat.eq_of_beq_eq_true h2
      subst this
      exact hu
    · rename_i fields fs hu hk
      rw [hk]
      refine ⟨fields, hu, (all2B_ok h2).imp fun f p h => ?_⟩
      simp only [fldB, Bool.and_eq_true] at h
      obtain ⟨a, b⟩ := h
      split at b
      · rename_i i hi
        exact ⟨Nat.eq_of_beq_eq_true a, i, hi, Nat.eq_of_beq_eq_true b⟩
      · cases b
    · rename_i n e k e' n' hu hk
      rw [hk]
      simp only [Bool.and_eq_true] at h2
      obtain ⟨c1, c2, c3⟩ := h2
      have c1 := Nat.eq_of_beq_eq_true c1
      have c2 := Nat.eq_of_beq_eq_true c2
      subst c1 c2
      split at c3
      · rename_i l hl
        have c3 := IntKind.eqb_iff.1 c3
        subst c3
        exact ⟨hu, hl⟩
      · cases c3
    · cases h2
def kzB (k : RK) (l : List Value) : Bool := match k with
  | .ints k => all2B zvB l [.int k]
  | .strs => all2B zvB l [.str]
  | .eqs => all2B zvB l [.nil .strs, .str]
  | .deqs => all2B zvB l [.nil .strs, .str]
  | .arr _ _ => false
theorem kzB_ok {k : RK} {l : List Value} (h : kzB k l = true) : l = kzero k := by
  cases k with
  | ints k => exact all2_map (f := zval) ((all2B_ok h).imp fun _ _ h => zvB_ok h)
  | strs => exact all2_map (f := zval) ((all2B_ok h).imp fun _ _ h => zvB_ok h)
  | deqs => exact all2_map (f := zval) ((all2B_ok h).imp fun _ _ h => zvB_ok h)
  | eqs => exact all2_map (f := zval) ((all2B_ok h).imp fun _ _ h => zvB_ok h)
  | arr k n => cases h
def isS {α : Type} (x : Option α) (f : α → Bool) : Bool := match x with
  | some a => f a
  | none => false
theorem isS_ok {α : Type} {x : Option α} {f : α → Bool} (h : isS x f = true) : ∃ a, x = some a ∧ f a = true := by
  cases x with
  | none => cases h
  | some a => exact ⟨a, rfl, h⟩
def ekB (P : Program) (l : List (TypeId × RK)) (p : TypeId × RK) : Bool := isS (P.info? p.1) (fun i => Nat.beq i.size (kwd p.2) && (Nat.blt 0 i.bytes && (Nat.ble i.bytes 64 && isS i.zero fun z => kzB p.2 z.cells.toList))) && (isS (ekOfL l p.2) (Nat.beq p.1) && !p.2.isArr)
def nilsB (E : EK) (p : TypeId × TI) : Bool := p.2.zc.all fun
  | .nil k => !k.isArr && (ekOf E k).isSome
  | _ => true
theorem alook_mem {β : Type} : ∀ {l : List (Nat × β)} {n : Nat} {x : β}, alook l n = some x → (n, x) ∈ l
  | [], _, _, h => by cases h
  | (m, y) :: l, n, x, h => by
    unfold alook at h
    split at h
    · rename_i hb
      have := Nat.eq_of_beq_eq_true hb
      subst this
      cases h
      exact List.mem_cons_self
    · exact List.mem_cons_of_mem _ (alook_mem h)
def tabB (P : Program) (ti : List (TypeId × TI)) (E : EK) : Bool := ti.all (tiB P) && (E.ts.all (ekB P E.ts) && ti.all (nilsB E))
theorem ekOf_not {E : EK} {k : RK} (h : k.isArr = false) : ekOf E k = ekOfL E.ts k := by
  cases k <;> first
    | rfl
    | cases h
theorem tab_ok {P : Program} {cx : Cx} (h : tabB P cx.ti cx.ek = true) : TabOk P cx := by
  simp only [tabB, Bool.and_eq_true, List.all_eq_true] at h
  obtain ⟨h1, h2, h3⟩ := h
  refine ⟨fun t x hx => tiB_ok (h1 _ (alook_mem hx)), fun e k hk => ?_, fun e k hk => ?_, fun t x hx k hk => ?_⟩
  rotate_left
  · have := h2 _ (alook_mem hk)
    simp only [ekB, Bool.and_eq_true, Bool.not_eq_true'] at this
    exact this.2.2
  rotate_right
  · have := h2 _ (alook_mem hk)
    simp only [ekB, Bool.and_eq_true, Bool.not_eq_true'] at this
    obtain ⟨a, b, na⟩ := this
    rw [ekOf_not na]
    obtain ⟨i, hi, hi2⟩ := isS_ok a
    simp only [Bool.and_eq_true] at hi2
    obtain ⟨c1, c2, c3, c4⟩ := hi2
    obtain ⟨z, hz, hz2⟩ := isS_ok c4
    obtain ⟨e', he, he2⟩ := isS_ok b
    have := Nat.eq_of_beq_eq_true he2
    subst this
    exact ⟨⟨i, z, hi, Nat.eq_of_beq_eq_true c1, by simpa using c2, by simpa using c3, hz, kzB_ok hz2⟩, he⟩
  · have := h3 _ (alook_mem hx)
    simp only [nilsB, List.all_eq_true] at this
    have := this _ hk
    simpa using this
end Vx
/- Loops of a function, each by its key; the rule for them. -/
namespace Vx
open Go

def hasKey (key : Nat) : Code → Bool
  | .seq a b => hasKey key a || hasKey key b
  | .cond _ a b => hasKey key a || hasKey key b
  | .block _ c => hasKey key c
  | .loop c => Nat.beq (keyOf c) key || hasKey key c
  | _ => false
def locate (key : Nat) : Code → Code
  | .seq a b => match hasKey key a with
    | true => locate key a
    | false => locate key b
  | .cond _ a b => match hasKey key a with
    | true => locate key a
    | false => locate key b
  | .block _ c => locate key c
  | .loop c => match Nat.beq (keyOf c) key with
    | true => c
    | false => locate key c
  | c => c
/-- What follows a loop. -/
def afterK {R : Type} (cx : Cx) (F : FnI) (n : Nat) (mo : Nat → Nat) (key : Nat) : Code → (St → Option R) → (Ex → St → Option R) → Ex → St → Option R
  | .seq a b, kn, kx => match hasKey key a with
    | true => afterK cx F n mo key a (fun σ' => cxK cx F n b σ' kn kx) kx
    | false => afterK cx F n mo key b kn kx
  | .cond _ a b, kn, kx => match hasKey key a with
    | true => afterK cx F n mo key a kn kx
    | false => afterK cx F n mo key b kn kx
  | .block id c, kn, kx => afterK cx F n mo key c kn fun e σ' => match e with
    | .exit i => match Nat.beq i id with
      | true => kn σ'
      | false => kx (.exit i) σ'
    | .ret => kx .ret σ'
  | .loop c, _, kx => match Nat.beq (keyOf c) key with
    | true => kx
    | false => afterK cx F n mo key c (fun σ' => match norm (F.live (keyOf c)) F.nb σ' with
      | some τ => iter (fun σ' k => cxK cx F n c σ' k kx) (F.live (keyOf c)) F.nb (mo (keyOf c)) τ
      | none => none) kx
  | _, _, kx => kx
abbrev Rs := Option (List DA × List (List SC))
def loopL (cx : Cx) (F : FnI) (n : Nat) (mo : Nat → Nat) (key : Nat) (m : Nat) (τ : St) : Rs :=
  iter (fun σ' k => cxK cx F n (locate key F.body) σ' k (afterK cx F n mo key F.body (finK cx F) (finX cx F))) (F.live key) F.nb m τ
def moSet (mo : Nat → Nat) (key m : Nat) : Nat → Nat := fun k => match Nat.beq k key with
  | true => m
  | false => mo k
def fixL {X R : Type} (T : (X → Option R) → X → Option R) : Nat → X → Option R
  | 0, _ => none
  | m + 1, x => T (fixL T m) x
theorem fixL_eq {X R : Type} {T : (X → Option R) → X → Option R} {I : Nat → X → Option R} (h0 : ∀ x, I 0 x = none) (h : ∀ m x, I (m + 1) x = T (I m) x) : ∀ m, I m = fixL T m := by
  intro m
  induction m with
  | zero => funext x; rw [h0]; rfl
  | succ m ih => funext x; rw [h, ih]; rfl
/-- The rule: what is left shrinks; what a turn says of what comes behind it. -/
theorem fixL_ok {X R : Type} {T : (X → Option R) → X → Option R} (Inv : X → Prop) (μ : X → Nat) (r : X → R)
    (h : ∀ x K, Inv x → (∀ y, Inv y → μ y < μ x → K y = some (r y)) → T K x = some (r x)) : ∀ (m : Nat) x, Inv x → μ x < m → fixL T m x = some (r x) := by
  intro m
  induction m with
  | zero => intro x _ hm; omega
  | succ m ih => exact fun x hi hm => h x _ hi fun y hy hlt => ih y hy (by omega)

/-! ### Functions, each by itself -/
def bodyOf (f : Func) : Code := match f.body with
  | some c => c
  | none => .skip
def tabF (l : List (FuncId × (List DA → Option Sp))) (f : FuncId) (args : List DA) : Option Sp := match alook l f with
  | some S => S args
  | none => none
def Sound1 (P : Program) (ek : EK) (f : FuncId) (S : List DA → Option Sp) : Prop := Sound P ek (tabF [(f, S)])
theorem tabF_nil (P : Program) (ek : EK) : Sound P ek (tabF []) := fun f args sp h => by cases h
theorem tabF_cons {P : Program} {ek : EK} {f : FuncId} {S : List DA → Option Sp} {l : List (FuncId × (List DA → Option Sp))} (h : Sound1 P ek f S) (hl : Sound P ek (tabF l)) : Sound P ek (tabF ((f, S) :: l)) := by
  intro f' args sp hsp hpre
  unfold tabF alook at hsp
  cases hb : Nat.beq f' f with
  | true =>
    rw [hb] at hsp
    exact h f' args sp (by unfold tabF alook; rw [hb]; exact hsp) hpre
  | false =>
    rw [hb] at hsp
    exact hl f' args sp hsp hpre
/-- A function by what the executor finds of it. -/
theorem sound1 {P : Program} {cx : Cx} (htab : TabOk P cx) (hmix : P.follows .mixedOrders = true) (hΦ : Sound P cx.ek cx.Φ) {fi : FnI} (hf : FnOk P fi) {S : List DA → Option Sp}
    (hS : ∀ args sp, S args = some sp → sp.pre = true → sp.mode = fi.mode ∧ ∃ n, runF cx fi n args = some (sp.res, sp.outs)) : Sound1 P cx.ek fi.f S := by
  intro f args sp hsp hpre
  unfold tabF alook at hsp
  cases hb : Nat.beq f fi.f with
  | false => rw [hb] at hsp; cases hsp
  | true =>
    rw [hb] at hsp
    have he := Nat.eq_of_beq_eq_true hb
    subst he
    have hsp : S args = some sp := hsp
    obtain ⟨hm, n, hn⟩ := hS args sp hsp hpre
    obtain ⟨fn, h1, h2, _, _, h5⟩ := hf.ex
    refine ⟨⟨fn, h1, by rw [h2]; rfl, h5⟩, fun _ w A B vals bs hargs hnd hA hBA hgl => ?_, fun hg => by rw [hm, runF_give hn] at hg; cases hg⟩
    have := runF_ok htab hΦ hmix hf hn hargs hnd hA hBA hgl
    obtain ⟨p, r, o, m⟩ := sp
    simp only at hm hpre
    subst hm hpre
    exact this
end Vx
/- Plain words: rows as ascending lists and as bits, blocks of bytes. -/
namespace Vx.N
open Go
theorem pos_of {k n : Nat} (h : n < k) : ∃ m, k = m + 1 ∧ n ≤ m := ⟨k - 1, by omega, by omega⟩
theorem bool_eq {a b : Bool} (h : a = true ↔ b = true) : a = b := by cases a <;> cases b <;> simp_all
theorem w64 {x : Int} (h0 : -9223372036854775808 ≤ x) (h1 : x ≤ 9223372036854775807) : IntKind.wrap .i64 x = x := by
  simp [IntKind.wrap, IntKind.bits, IntKind.signed]
  omega
theorem w64i {i : Int} (h0 : 0 ≤ i) (h : i < 9223372036854775807) : IntKind.wrap .i64 (i + 1) = i + 1 := w64 (by omega) (by omega)
theorem u32wrap {x : Int} (h0 : 0 ≤ x) (h1 : x < 4294967296) : IntKind.wrap .u32 x = x := by
  simp [IntKind.wrap, IntKind.bits, IntKind.signed]
  omega
theorem u8wrap {x : Int} (h0 : 0 ≤ x) (h1 : x < 256) : IntKind.wrap .u8 x = x := by
  simp [IntKind.wrap, IntKind.bits, IntKind.signed]
  omega
theorem getD_lt {α : Type} {l : List α} {i : Nat} (h : i < l.length) (z : α) : l.getD i z = l[i] := by simp [List.getD, h]
/-! ### The rule for loops, by what is held -/
theorem fix1 {A0 R : Type} {T : (A0 → Option R) → A0 → Option R} (Inv : A0 → Prop) (μ : A0 → Nat) (r : A0 → R)
    (h : ∀ a0 K, Inv a0 → (∀ b0, Inv b0 → μ b0 < μ a0 → K b0 = some (r b0)) → T K a0 = some (r a0)) (m : Nat) (a0) (hi : Inv a0) (hm : μ a0 < m) : fixL T m a0 = some (r a0) :=
  fixL_ok (fun | a0 => Inv a0) (fun | a0 => μ a0) (fun | a0 => r a0) (fun | a0, K, hi, hK => h a0 K hi fun b0 hj hlt => hK b0 hj hlt) m a0 hi hm
theorem fix2 {A0 A1 R : Type} {T : (A0 × A1 → Option R) → A0 × A1 → Option R} (Inv : A0 → A1 → Prop) (μ : A0 → A1 → Nat) (r : A0 → A1 → R)
    (h : ∀ a0 a1 K, Inv a0 a1 → (∀ b0 b1, Inv b0 b1 → μ b0 b1 < μ a0 a1 → K (b0, b1) = some (r b0 b1)) → T K (a0, a1) = some (r a0 a1)) (m : Nat) (a0 a1) (hi : Inv a0 a1) (hm : μ a0 a1 < m) : fixL T m (a0, a1) = some (r a0 a1) :=
  fixL_ok (fun | (a0, a1) => Inv a0 a1) (fun | (a0, a1) => μ a0 a1) (fun | (a0, a1) => r a0 a1) (fun | (a0, a1), K, hi, hK => h a0 a1 K hi fun b0 b1 hj hlt => hK (b0, b1) hj hlt) m (a0, a1) hi hm
theorem fix3 {A0 A1 A2 R : Type} {T : (A0 × A1 × A2 → Option R) → A0 × A1 × A2 → Option R} (Inv : A0 → A1 → A2 → Prop) (μ : A0 → A1 → A2 → Nat) (r : A0 → A1 → A2 → R)
    (h : ∀ a0 a1 a2 K, Inv a0 a1 a2 → (∀ b0 b1 b2, Inv b0 b1 b2 → μ b0 b1 b2 < μ a0 a1 a2 → K (b0, b1, b2) = some (r b0 b1 b2)) → T K (a0, a1, a2) = some (r a0 a1 a2)) (m : Nat) (a0 a1 a2) (hi : Inv a0 a1 a2) (hm : μ a0 a1 a2 < m) : fixL T m (a0, a1, a2) = some (r a0 a1 a2) :=
  fixL_ok (fun | (a0, a1, a2) => Inv a0 a1 a2) (fun | (a0, a1, a2) => μ a0 a1 a2) (fun | (a0, a1, a2) => r a0 a1 a2) (fun | (a0, a1, a2), K, hi, hK => h a0 a1 a2 K hi fun b0 b1 b2 hj hlt => hK (b0, b1, b2) hj hlt) m (a0, a1, a2) hi hm
theorem fix4 {A0 A1 A2 A3 R : Type} {T : (A0 × A1 × A2 × A3 → Option R) → A0 × A1 × A2 × A3 → Option R} (Inv : A0 → A1 → A2 → A3 → Prop) (μ : A0 → A1 → A2 → A3 → Nat) (r : A0 → A1 → A2 → A3 → R)
    (h : ∀ a0 a1 a2 a3 K, Inv a0 a1 a2 a3 → (∀ b0 b1 b2 b3, Inv b0 b1 b2 b3 → μ b0 b1 b2 b3 < μ a0 a1 a2 a3 → K (b0, b1, b2, b3) = some (r b0 b1 b2 b3)) → T K (a0, a1, a2, a3) = some (r a0 a1 a2 a3)) (m : Nat) (a0 a1 a2 a3) (hi : Inv a0 a1 a2 a3) (hm : μ a0 a1 a2 a3 < m) : fixL T m (a0, a1, a2, a3) = some (r a0 a1 a2 a3) :=
  fixL_ok (fun | (a0, a1, a2, a3) => Inv a0 a1 a2 a3) (fun | (a0, a1, a2, a3) => μ a0 a1 a2 a3) (fun | (a0, a1, a2, a3) => r a0 a1 a2 a3) (fun | (a0, a1, a2, a3), K, hi, hK => h a0 a1 a2 a3 K hi fun b0 b1 b2 b3 hj hlt => hK (b0, b1, b2, b3) hj hlt) m (a0, a1, a2, a3) hi hm
theorem fix5 {A0 A1 A2 A3 A4 R : Type} {T : (A0 × A1 × A2 × A3 × A4 → Option R) → A0 × A1 × A2 × A3 × A4 → Option R} (Inv : A0 → A1 → A2 → A3 → A4 → Prop) (μ : A0 → A1 → A2 → A3 → A4 → Nat) (r : A0 → A1 → A2 → A3 → A4 → R)
    (h : ∀ a0 a1 a2 a3 a4 K, Inv a0 a1 a2 a3 a4 → (∀ b0 b1 b2 b3 b4, Inv b0 b1 b2 b3 b4 → μ b0 b1 b2 b3 b4 < μ a0 a1 a2 a3 a4 → K (b0, b1, b2, b3, b4) = some (r b0 b1 b2 b3 b4)) → T K (a0, a1, a2, a3, a4) = some (r a0 a1 a2 a3 a4)) (m : Nat) (a0 a1 a2 a3 a4) (hi : Inv a0 a1 a2 a3 a4) (hm : μ a0 a1 a2 a3 a4 < m) : fixL T m (a0, a1, a2, a3, a4) = some (r a0 a1 a2 a3 a4) :=
  fixL_ok (fun | (a0, a1, a2, a3, a4) => Inv a0 a1 a2 a3 a4) (fun | (a0, a1, a2, a3, a4) => μ a0 a1 a2 a3 a4) (fun | (a0, a1, a2, a3, a4) => r a0 a1 a2 a3 a4) (fun | (a0, a1, a2, a3, a4), K, hi, hK => h a0 a1 a2 a3 a4 K hi fun b0 b1 b2 b3 b4 hj hlt => hK (b0, b1, b2, b3, b4) hj hlt) m (a0, a1, a2, a3, a4) hi hm
theorem fix6 {A0 A1 A2 A3 A4 A5 R : Type} {T : (A0 × A1 × A2 × A3 × A4 × A5 → Option R) → A0 × A1 × A2 × A3 × A4 × A5 → Option R} (Inv : A0 → A1 → A2 → A3 → A4 → A5 → Prop) (μ : A0 → A1 → A2 → A3 → A4 → A5 → Nat) (r : A0 → A1 → A2 → A3 → A4 → A5 → R)
    (h : ∀ a0 a1 a2 a3 a4 a5 K, Inv a0 a1 a2 a3 a4 a5 → (∀ b0 b1 b2 b3 b4 b5, Inv b0 b1 b2 b3 b4 b5 → μ b0 b1 b2 b3 b4 b5 < μ a0 a1 a2 a3 a4 a5 → K (b0, b1, b2, b3, b4, b5) = some (r b0 b1 b2 b3 b4 b5)) → T K (a0, a1, a2, a3, a4, a5) = some (r a0 a1 a2 a3 a4 a5)) (m : Nat) (a0 a1 a2 a3 a4 a5) (hi : Inv a0 a1 a2 a3 a4 a5) (hm : μ a0 a1 a2 a3 a4 a5 < m) : fixL T m (a0, a1, a2, a3, a4, a5) = some (r a0 a1 a2 a3 a4 a5) :=
  fixL_ok (fun | (a0, a1, a2, a3, a4, a5) => Inv a0 a1 a2 a3 a4 a5) (fun | (a0, a1, a2, a3, a4, a5) => μ a0 a1 a2 a3 a4 a5) (fun | (a0, a1, a2, a3, a4, a5) => r a0 a1 a2 a3 a4 a5) (fun | (a0, a1, a2, a3, a4, a5), K, hi, hK => h a0 a1 a2 a3 a4 a5 K hi fun b0 b1 b2 b3 b4 b5 hj hlt => hK (b0, b1, b2, b3, b4, b5) hj hlt) m (a0, a1, a2, a3, a4, a5) hi hm
theorem fix7 {A0 A1 A2 A3 A4 A5 A6 R : Type} {T : (A0 × A1 × A2 × A3 × A4 × A5 × A6 → Option R) → A0 × A1 × A2 × A3 × A4 × A5 × A6 → Option R} (Inv : A0 → A1 → A2 → A3 → A4 → A5 → A6 → Prop) (μ : A0 → A1 → A2 → A3 → A4 → A5 → A6 → Nat) (r : A0 → A1 → A2 → A3 → A4 → A5 → A6 → R)
    (h : ∀ a0 a1 a2 a3 a4 a5 a6 K, Inv a0 a1 a2 a3 a4 a5 a6 → (∀ b0 b1 b2 b3 b4 b5 b6, Inv b0 b1 b2 b3 b4 b5 b6 → μ b0 b1 b2 b3 b4 b5 b6 < μ a0 a1 a2 a3 a4 a5 a6 → K (b0, b1, b2, b3, b4, b5, b6) = some (r b0 b1 b2 b3 b4 b5 b6)) → T K (a0, a1, a2, a3, a4, a5, a6) = some (r a0 a1 a2 a3 a4 a5 a6)) (m : Nat) (a0 a1 a2 a3 a4 a5 a6) (hi : Inv a0 a1 a2 a3 a4 a5 a6) (hm : μ a0 a1 a2 a3 a4 a5 a6 < m) : fixL T m (a0, a1, a2, a3, a4, a5, a6) = some (r a0 a1 a2 a3 a4 a5 a6) :=
  fixL_ok (fun | (a0, a1, a2, a3, a4, a5, a6) => Inv a0 a1 a2 a3 a4 a5 a6) (fun | (a0, a1, a2, a3, a4, a5, a6) => μ a0 a1 a2 a3 a4 a5 a6) (fun | (a0, a1, a2, a3, a4, a5, a6) => r a0 a1 a2 a3 a4 a5 a6) (fun | (a0, a1, a2, a3, a4, a5, a6), K, hi, hK => h a0 a1 a2 a3 a4 a5 a6 K hi fun b0 b1 b2 b3 b4 b5 b6 hj hlt => hK (b0, b1, b2, b3, b4, b5, b6) hj hlt) m (a0, a1, a2, a3, a4, a5, a6) hi hm
theorem fix8 {A0 A1 A2 A3 A4 A5 A6 A7 R : Type} {T : (A0 × A1 × A2 × A3 × A4 × A5 × A6 × A7 → Option R) → A0 × A1 × A2 × A3 × A4 × A5 × A6 × A7 → Option R} (Inv : A0 → A1 → A2 → A3 → A4 → A5 → A6 → A7 → Prop) (μ : A0 → A1 → A2 → A3 → A4 → A5 → A6 → A7 → Nat) (r : A0 → A1 → A2 → A3 → A4 → A5 → A6 → A7 → R)
    (h : ∀ a0 a1 a2 a3 a4 a5 a6 a7 K, Inv a0 a1 a2 a3 a4 a5 a6 a7 → (∀ b0 b1 b2 b3 b4 b5 b6 b7, Inv b0 b1 b2 b3 b4 b5 b6 b7 → μ b0 b1 b2 b3 b4 b5 b6 b7 < μ a0 a1 a2 a3 a4 a5 a6 a7 → K (b0, b1, b2, b3, b4, b5, b6, b7) = some (r b0 b1 b2 b3 b4 b5 b6 b7)) → T K (a0, a1, a2, a3, a4, a5, a6, a7) = some (r a0 a1 a2 a3 a4 a5 a6 a7)) (m : Nat) (a0 a1 a2 a3 a4 a5 a6 a7) (hi : Inv a0 a1 a2 a3 a4 a5 a6 a7) (hm : μ a0 a1 a2 a3 a4 a5 a6 a7 < m) : fixL T m (a0, a1, a2, a3, a4, a5, a6, a7) = some (r a0 a1 a2 a3 a4 a5 a6 a7) :=
  fixL_ok (fun | (a0, a1, a2, a3, a4, a5, a6, a7) => Inv a0 a1 a2 a3 a4 a5 a6 a7) (fun | (a0, a1, a2, a3, a4, a5, a6, a7) => μ a0 a1 a2 a3 a4 a5 a6 a7) (fun | (a0, a1, a2, a3, a4, a5, a6, a7) => r a0 a1 a2 a3 a4 a5 a6 a7) (fun | (a0, a1, a2, a3, a4, a5, a6, a7), K, hi, hK => h a0 a1 a2 a3 a4 a5 a6 a7 K hi fun b0 b1 b2 b3 b4 b5 b6 b7 hj hlt => hK (b0, b1, b2, b3, b4, b5, b6, b7) hj hlt) m (a0, a1, a2, a3, a4, a5, a6, a7) hi hm
theorem fix9 {A0 A1 A2 A3 A4 A5 A6 A7 A8 R : Type} {T : (A0 × A1 × A2 × A3 × A4 × A5 × A6 × A7 × A8 → Option R) → A0 × A1 × A2 × A3 × A4 × A5 × A6 × A7 × A8 → Option R} (Inv : A0 → A1 → A2 → A3 → A4 → A5 → A6 → A7 → A8 → Prop) (μ : A0 → A1 → A2 → A3 → A4 → A5 → A6 → A7 → A8 → Nat) (r : A0 → A1 → A2 → A3 → A4 → A5 → A6 → A7 → A8 → R)
    (h : ∀ a0 a1 a2 a3 a4 a5 a6 a7 a8 K, Inv a0 a1 a2 a3 a4 a5 a6 a7 a8 → (∀ b0 b1 b2 b3 b4 b5 b6 b7 b8, Inv b0 b1 b2 b3 b4 b5 b6 b7 b8 → μ b0 b1 b2 b3 b4 b5 b6 b7 b8 < μ a0 a1 a2 a3 a4 a5 a6 a7 a8 → K (b0, b1, b2, b3, b4, b5, b6, b7, b8) = some (r b0 b1 b2 b3 b4 b5 b6 b7 b8)) → T K (a0, a1, a2, a3, a4, a5, a6, a7, a8) = some (r a0 a1 a2 a3 a4 a5 a6 a7 a8)) (m : Nat) (a0 a1 a2 a3 a4 a5 a6 a7 a8) (hi : Inv a0 a1 a2 a3 a4 a5 a6 a7 a8) (hm : μ a0 a1 a2 a3 a4 a5 a6 a7 a8 < m) : fixL T m (a0, a1, a2, a3, a4, a5, a6, a7, a8) = some (r a0 a1 a2 a3 a4 a5 a6 a7 a8) :=
  fixL_ok (fun | (a0, a1, a2, a3, a4, a5, a6, a7, a8) => Inv a0 a1 a2 a3 a4 a5 a6 a7 a8) (fun | (a0, a1, a2, a3, a4, a5, a6, a7, a8) => μ a0 a1 a2 a3 a4 a5 a6 a7 a8) (fun | (a0, a1, a2, a3, a4, a5, a6, a7, a8) => r a0 a1 a2 a3 a4 a5 a6 a7 a8) (fun | (a0, a1, a2, a3, a4, a5, a6, a7, a8), K, hi, hK => h a0 a1 a2 a3 a4 a5 a6 a7 a8 K hi fun b0 b1 b2 b3 b4 b5 b6 b7 b8 hj hlt => hK (b0, b1, b2, b3, b4, b5, b6, b7, b8) hj hlt) m (a0, a1, a2, a3, a4, a5, a6, a7, a8) hi hm
theorem fix10 {A0 A1 A2 A3 A4 A5 A6 A7 A8 A9 R : Type} {T : (A0 × A1 × A2 × A3 × A4 × A5 × A6 × A7 × A8 × A9 → Option R) → A0 × A1 × A2 × A3 × A4 × A5 × A6 × A7 × A8 × A9 → Option R} (Inv : A0 → A1 → A2 → A3 → A4 → A5 → A6 → A7 → A8 → A9 → Prop) (μ : A0 → A1 → A2 → A3 → A4 → A5 → A6 → A7 → A8 → A9 → Nat) (r : A0 → A1 → A2 → A3 → A4 → A5 → A6 → A7 → A8 → A9 → R)
    (h : ∀ a0 a1 a2 a3 a4 a5 a6 a7 a8 a9 K, Inv a0 a1 a2 a3 a4 a5 a6 a7 a8 a9 → (∀ b0 b1 b2 b3 b4 b5 b6 b7 b8 b9, Inv b0 b1 b2 b3 b4 b5 b6 b7 b8 b9 → μ b0 b1 b2 b3 b4 b5 b6 b7 b8 b9 < μ a0 a1 a2 a3 a4 a5 a6 a7 a8 a9 → K (b0, b1, b2, b3, b4, b5, b6, b7, b8, b9) = some (r b0 b1 b2 b3 b4 b5 b6 b7 b8 b9)) → T K (a0, a1, a2, a3, a4, a5, a6, a7, a8, a9) = some (r a0 a1 a2 a3 a4 a5 a6 a7 a8 a9)) (m : Nat) (a0 a1 a2 a3 a4 a5 a6 a7 a8 a9) (hi : Inv a0 a1 a2 a3 a4 a5 a6 a7 a8 a9) (hm : μ a0 a1 a2 a3 a4 a5 a6 a7 a8 a9 < m) : fixL T m (a0, a1, a2, a3, a4, a5, a6, a7, a8, a9) = some (r a0 a1 a2 a3 a4 a5 a6 a7 a8 a9) :=
  fixL_ok (fun | (a0, a1, a2, a3, a4, a5, a6, a7, a8, a9) => Inv a0 a1 a2 a3 a4 a5 a6 a7 a8 a9) (fun | (a0, a1, a2, a3, a4, a5, a6, a7, a8, a9) => μ a0 a1 a2 a3 a4 a5 a6 a7 a8 a9) (fun | (a0, a1, a2, a3, a4, a5, a6, a7, a8, a9) => r a0 a1 a2 a3 a4 a5 a6 a7 a8 a9) (fun | (a0, a1, a2, a3, a4, a5, a6, a7, a8, a9), K, hi, hK => h a0 a1 a2 a3 a4 a5 a6 a7 a8 a9 K hi fun b0 b1 b2 b3 b4 b5 b6 b7 b8 b9 hj hlt => hK (b0, b1, b2, b3, b4, b5, b6, b7, b8, b9) hj hlt) m (a0, a1, a2, a3, a4, a5, a6, a7, a8, a9) hi hm
theorem fix11 {A0 A1 A2 A3 A4 A5 A6 A7 A8 A9 A10 R : Type} {T : (A0 × A1 × A2 × A3 × A4 × A5 × A6 × A7 × A8 × A9 × A10 → Option R) → A0 × A1 × A2 × A3 × A4 × A5 × A6 × A7 × A8 × A9 × A10 → Option R} (Inv : A0 → A1 → A2 → A3 → A4 → A5 → A6 → A7 → A8 → A9 → A10 → Prop) (μ : A0 → A1 → A2 → A3 → A4 → A5 → A6 → A7 → A8 → A9 → A10 → Nat) (r : A0 → A1 → A2 → A3 → A4 → A5 → A6 → A7 → A8 → A9 → A10 → R)
    (h : ∀ a0 a1 a2 a3 a4 a5 a6 a7 a8 a9 a10 K, Inv a0 a1 a2 a3 a4 a5 a6 a7 a8 a9 a10 → (∀ b0 b1 b2 b3 b4 b5 b6 b7 b8 b9 b10, Inv b0 b1 b2 b3 b4 b5 b6 b7 b8 b9 b10 → μ b0 b1 b2 b3 b4 b5 b6 b7 b8 b9 b10 < μ a0 a1 a2 a3 a4 a5 a6 a7 a8 a9 a10 → K (b0, b1, b2, b3, b4, b5, b6, b7, b8, b9, b10) = some (r b0 b1 b2 b3 b4 b5 b6 b7 b8 b9 b10)) → T K (a0, a1, a2, a3, a4, a5, a6, a7, a8, a9, a10) = some (r a0 a1 a2 a3 a4 a5 a6 a7 a8 a9 a10)) (m : Nat) (a0 a1 a2 a3 a4 a5 a6 a7 a8 a9 a10) (hi : Inv a0 a1 a2 a3 a4 a5 a6 a7 a8 a9 a10) (hm : μ a0 a1 a2 a3 a4 a5 a6 a7 a8 a9 a10 < m) : fixL T m (a0, a1, a2, a3, a4, a5, a6, a7, a8, a9, a10) = some (r a0 a1 a2 a3 a4 a5 a6 a7 a8 a9 a10) :=
  fixL_ok (fun | (a0, a1, a2, a3, a4, a5, a6, a7, a8, a9, a10) => Inv a0 a1 a2 a3 a4 a5 a6 a7 a8 a9 a10) (fun | (a0, a1, a2, a3, a4, a5, a6, a7, a8, a9, a10) => μ a0 a1 a2 a3 a4 a5 a6 a7 a8 a9 a10) (fun | (a0, a1, a2, a3, a4, a5, a6, a7, a8, a9, a10) => r a0 a1 a2 a3 a4 a5 a6 a7 a8 a9 a10) (fun | (a0, a1, a2, a3, a4, a5, a6, a7, a8, a9, a10), K, hi, hK => h a0 a1 a2 a3 a4 a5 a6 a7 a8 a9 a10 K hi fun b0 b1 b2 b3 b4 b5 b6 b7 b8 b9 b10 hj hlt => hK (b0, b1, b2, b3, b4, b5, b6, b7, b8, b9, b10) hj hlt) m (a0, a1, a2, a3, a4, a5, a6, a7, a8, a9, a10) hi hm
theorem fix12 {A0 A1 A2 A3 A4 A5 A6 A7 A8 A9 A10 A11 R : Type} {T : (A0 × A1 × A2 × A3 × A4 × A5 × A6 × A7 × A8 × A9 × A10 × A11 → Option R) → A0 × A1 × A2 × A3 × A4 × A5 × A6 × A7 × A8 × A9 × A10 × A11 → Option R} (Inv : A0 → A1 → A2 → A3 → A4 → A5 → A6 → A7 → A8 → A9 → A10 → A11 → Prop) (μ : A0 → A1 → A2 → A3 → A4 → A5 → A6 → A7 → A8 → A9 → A10 → A11 → Nat) (r : A0 → A1 → A2 → A3 → A4 → A5 → A6 → A7 → A8 → A9 → A10 → A11 → R)
    (h : ∀ a0 a1 a2 a3 a4 a5 a6 a7 a8 a9 a10 a11 K, Inv a0 a1 a2 a3 a4 a5 a6 a7 a8 a9 a10 a11 → (∀ b0 b1 b2 b3 b4 b5 b6 b7 b8 b9 b10 b11, Inv b0 b1 b2 b3 b4 b5 b6 b7 b8 b9 b10 b11 → μ b0 b1 b2 b3 b4 b5 b6 b7 b8 b9 b10 b11 < μ a0 a1 a2 a3 a4 a5 a6 a7 a8 a9 a10 a11 → K (b0, b1, b2, b3, b4, b5, b6, b7, b8, b9, b10, b11) = some (r b0 b1 b2 b3 b4 b5 b6 b7 b8 b9 b10 b11)) → T K (a0, a1, a2, a3, a4, a5, a6, a7, a8, a9, a10, a11) = some (r a0 a1 a2 a3 a4 a5 a6 a7 a8 a9 a10 a11)) (m : Nat) (a0 a1 a2 a3 a4 a5 a6 a7 a8 a9 a10 a11) (hi : Inv a0 a1 a2 a3 a4 a5 a6 a7 a8 a9 a10 a11) (hm : μ a0 a1 a2 a3 a4 a5 a6 a7 a8 a9 a10 a11 < m) : fixL T m (a0, a1, a2, a3, a4, a5, a6, a7, a8, a9, a10, a11) = some (r a0 a1 a2 a3 a4 a5 a6 a7 a8 a9 a10 a11) :=
  fixL_ok (fun | (a0, a1, a2, a3, a4, a5, a6, a7, a8, a9, a10, a11) => Inv a0 a1 a2 a3 a4 a5 a6 a7 a8 a9 a10 a11) (fun | (a0, a1, a2, a3, a4, a5, a6, a7, a8, a9, a10, a11) => μ a0 a1 a2 a3 a4 a5 a6 a7 a8 a9 a10 a11) (fun | (a0, a1, a2, a3, a4, a5, a6, a7, a8, a9, a10, a11) => r a0 a1 a2 a3 a4 a5 a6 a7 a8 a9 a10 a11) (fun | (a0, a1, a2, a3, a4, a5, a6, a7, a8, a9, a10, a11), K, hi, hK => h a0 a1 a2 a3 a4 a5 a6 a7 a8 a9 a10 a11 K hi fun b0 b1 b2 b3 b4 b5 b6 b7 b8 b9 b10 b11 hj hlt => hK (b0, b1, b2, b3, b4, b5, b6, b7, b8, b9, b10, b11) hj hlt) m (a0, a1, a2, a3, a4, a5, a6, a7, a8, a9, a10, a11) hi hm
theorem fixL_okO {X R : Type} {T : (X → Option R) → X → Option R} (Inv : X → Prop) (μ : X → Nat) (r : X → Option R)
    (h : ∀ x K, Inv x → (∀ y, Inv y → μ y < μ x → K y = r y) → T K x = r x) : ∀ (m : Nat) x, Inv x → μ x < m → fixL T m x = r x := by
  intro m
  induction m with
  | zero => intro x _ hm; omega
  | succ m ih => exact fun x hi hm => h x _ hi fun y hy hlt => ih y hy (by omega)
theorem fo2 {A0 A1 R : Type} {T : (A0 × A1 → Option R) → A0 × A1 → Option R} (Inv : A0 → A1 → Prop) (μ : A0 → A1 → Nat) (r : A0 → A1 → Option R)
    (h : ∀ a0 a1 K, Inv a0 a1 → (∀ b0 b1, Inv b0 b1 → μ b0 b1 < μ a0 a1 → K (b0, b1) = r b0 b1) → T K (a0, a1) = r a0 a1) (m : Nat) (a0 a1) (hi : Inv a0 a1) (hm : μ a0 a1 < m) : fixL T m (a0, a1) = r a0 a1 :=
  fixL_okO (fun | (a0, a1) => Inv a0 a1) (fun | (a0, a1) => μ a0 a1) (fun | (a0, a1) => r a0 a1) (fun | (a0, a1), K, hi, hK => h a0 a1 K hi fun b0 b1 hj hlt => hK (b0, b1) hj hlt) m (a0, a1) hi hm
theorem fo3 {A0 A1 A2 R : Type} {T : (A0 × A1 × A2 → Option R) → A0 × A1 × A2 → Option R} (Inv : A0 → A1 → A2 → Prop) (μ : A0 → A1 → A2 → Nat) (r : A0 → A1 → A2 → Option R)
    (h : ∀ a0 a1 a2 K, Inv a0 a1 a2 → (∀ b0 b1 b2, Inv b0 b1 b2 → μ b0 b1 b2 < μ a0 a1 a2 → K (b0, b1, b2) = r b0 b1 b2) → T K (a0, a1, a2) = r a0 a1 a2) (m : Nat) (a0 a1 a2) (hi : Inv a0 a1 a2) (hm : μ a0 a1 a2 < m) : fixL T m (a0, a1, a2) = r a0 a1 a2 :=
  fixL_okO (fun | (a0, a1, a2) => Inv a0 a1 a2) (fun | (a0, a1, a2) => μ a0 a1 a2) (fun | (a0, a1, a2) => r a0 a1 a2) (fun | (a0, a1, a2), K, hi, hK => h a0 a1 a2 K hi fun b0 b1 b2 hj hlt => hK (b0, b1, b2) hj hlt) m (a0, a1, a2) hi hm
theorem fo4 {A0 A1 A2 A3 R : Type} {T : (A0 × A1 × A2 × A3 → Option R) → A0 × A1 × A2 × A3 → Option R} (Inv : A0 → A1 → A2 → A3 → Prop) (μ : A0 → A1 → A2 → A3 → Nat) (r : A0 → A1 → A2 → A3 → Option R)
    (h : ∀ a0 a1 a2 a3 K, Inv a0 a1 a2 a3 → (∀ b0 b1 b2 b3, Inv b0 b1 b2 b3 → μ b0 b1 b2 b3 < μ a0 a1 a2 a3 → K (b0, b1, b2, b3) = r b0 b1 b2 b3) → T K (a0, a1, a2, a3) = r a0 a1 a2 a3) (m : Nat) (a0 a1 a2 a3) (hi : Inv a0 a1 a2 a3) (hm : μ a0 a1 a2 a3 < m) : fixL T m (a0, a1, a2, a3) = r a0 a1 a2 a3 :=
  fixL_okO (fun | (a0, a1, a2, a3) => Inv a0 a1 a2 a3) (fun | (a0, a1, a2, a3) => μ a0 a1 a2 a3) (fun | (a0, a1, a2, a3) => r a0 a1 a2 a3) (fun | (a0, a1, a2, a3), K, hi, hK => h a0 a1 a2 a3 K hi fun b0 b1 b2 b3 hj hlt => hK (b0, b1, b2, b3) hj hlt) m (a0, a1, a2, a3) hi hm
theorem fo5 {A0 A1 A2 A3 A4 R : Type} {T : (A0 × A1 × A2 × A3 × A4 → Option R) → A0 × A1 × A2 × A3 × A4 → Option R} (Inv : A0 → A1 → A2 → A3 → A4 → Prop) (μ : A0 → A1 → A2 → A3 → A4 → Nat) (r : A0 → A1 → A2 → A3 → A4 → Option R)
    (h : ∀ a0 a1 a2 a3 a4 K, Inv a0 a1 a2 a3 a4 → (∀ b0 b1 b2 b3 b4, Inv b0 b1 b2 b3 b4 → μ b0 b1 b2 b3 b4 < μ a0 a1 a2 a3 a4 → K (b0, b1, b2, b3, b4) = r b0 b1 b2 b3 b4) → T K (a0, a1, a2, a3, a4) = r a0 a1 a2 a3 a4) (m : Nat) (a0 a1 a2 a3 a4) (hi : Inv a0 a1 a2 a3 a4) (hm : μ a0 a1 a2 a3 a4 < m) : fixL T m (a0, a1, a2, a3, a4) = r a0 a1 a2 a3 a4 :=
  fixL_okO (fun | (a0, a1, a2, a3, a4) => Inv a0 a1 a2 a3 a4) (fun | (a0, a1, a2, a3, a4) => μ a0 a1 a2 a3 a4) (fun | (a0, a1, a2, a3, a4) => r a0 a1 a2 a3 a4) (fun | (a0, a1, a2, a3, a4), K, hi, hK => h a0 a1 a2 a3 a4 K hi fun b0 b1 b2 b3 b4 hj hlt => hK (b0, b1, b2, b3, b4) hj hlt) m (a0, a1, a2, a3, a4) hi hm
theorem fo6 {A0 A1 A2 A3 A4 A5 R : Type} {T : (A0 × A1 × A2 × A3 × A4 × A5 → Option R) → A0 × A1 × A2 × A3 × A4 × A5 → Option R} (Inv : A0 → A1 → A2 → A3 → A4 → A5 → Prop) (μ : A0 → A1 → A2 → A3 → A4 → A5 → Nat) (r : A0 → A1 → A2 → A3 → A4 → A5 → Option R)
    (h : ∀ a0 a1 a2 a3 a4 a5 K, Inv a0 a1 a2 a3 a4 a5 → (∀ b0 b1 b2 b3 b4 b5, Inv b0 b1 b2 b3 b4 b5 → μ b0 b1 b2 b3 b4 b5 < μ a0 a1 a2 a3 a4 a5 → K (b0, b1, b2, b3, b4, b5) = r b0 b1 b2 b3 b4 b5) → T K (a0, a1, a2, a3, a4, a5) = r a0 a1 a2 a3 a4 a5) (m : Nat) (a0 a1 a2 a3 a4 a5) (hi : Inv a0 a1 a2 a3 a4 a5) (hm : μ a0 a1 a2 a3 a4 a5 < m) : fixL T m (a0, a1, a2, a3, a4, a5) = r a0 a1 a2 a3 a4 a5 :=
  fixL_okO (fun | (a0, a1, a2, a3, a4, a5) => Inv a0 a1 a2 a3 a4 a5) (fun | (a0, a1, a2, a3, a4, a5) => μ a0 a1 a2 a3 a4 a5) (fun | (a0, a1, a2, a3, a4, a5) => r a0 a1 a2 a3 a4 a5) (fun | (a0, a1, a2, a3, a4, a5), K, hi, hK => h a0 a1 a2 a3 a4 a5 K hi fun b0 b1 b2 b3 b4 b5 hj hlt => hK (b0, b1, b2, b3, b4, b5) hj hlt) m (a0, a1, a2, a3, a4, a5) hi hm
theorem fo7 {A0 A1 A2 A3 A4 A5 A6 R : Type} {T : (A0 × A1 × A2 × A3 × A4 × A5 × A6 → Option R) → A0 × A1 × A2 × A3 × A4 × A5 × A6 → Option R} (Inv : A0 → A1 → A2 → A3 → A4 → A5 → A6 → Prop) (μ : A0 → A1 → A2 → A3 → A4 → A5 → A6 → Nat) (r : A0 → A1 → A2 → A3 → A4 → A5 → A6 → Option R)
    (h : ∀ a0 a1 a2 a3 a4 a5 a6 K, Inv a0 a1 a2 a3 a4 a5 a6 → (∀ b0 b1 b2 b3 b4 b5 b6, Inv b0 b1 b2 b3 b4 b5 b6 → μ b0 b1 b2 b3 b4 b5 b6 < μ a0 a1 a2 a3 a4 a5 a6 → K (b0, b1, b2, b3, b4, b5, b6) = r b0 b1 b2 b3 b4 b5 b6) → T K (a0, a1, a2, a3, a4, a5, a6) = r a0 a1 a2 a3 a4 a5 a6) (m : Nat) (a0 a1 a2 a3 a4 a5 a6) (hi : Inv a0 a1 a2 a3 a4 a5 a6) (hm : μ a0 a1 a2 a3 a4 a5 a6 < m) : fixL T m (a0, a1, a2, a3, a4, a5, a6) = r a0 a1 a2 a3 a4 a5 a6 :=
  fixL_okO (fun | (a0, a1, a2, a3, a4, a5, a6) => Inv a0 a1 a2 a3 a4 a5 a6) (fun | (a0, a1, a2, a3, a4, a5, a6) => μ a0 a1 a2 a3 a4 a5 a6) (fun | (a0, a1, a2, a3, a4, a5, a6) => r a0 a1 a2 a3 a4 a5 a6) (fun | (a0, a1, a2, a3, a4, a5, a6), K, hi, hK => h a0 a1 a2 a3 a4 a5 a6 K hi fun b0 b1 b2 b3 b4 b5 b6 hj hlt => hK (b0, b1, b2, b3, b4, b5, b6) hj hlt) m (a0, a1, a2, a3, a4, a5, a6) hi hm
theorem fo8 {A0 A1 A2 A3 A4 A5 A6 A7 R : Type} {T : (A0 × A1 × A2 × A3 × A4 × A5 × A6 × A7 → Option R) → A0 × A1 × A2 × A3 × A4 × A5 × A6 × A7 → Option R} (Inv : A0 → A1 → A2 → A3 → A4 → A5 → A6 → A7 → Prop) (μ : A0 → A1 → A2 → A3 → A4 → A5 → A6 → A7 → Nat) (r : A0 → A1 → A2 → A3 → A4 → A5 → A6 → A7 → Option R)
    (h : ∀ a0 a1 a2 a3 a4 a5 a6 a7 K, Inv a0 a1 a2 a3 a4 a5 a6 a7 → (∀ b0 b1 b2 b3 b4 b5 b6 b7, Inv b0 b1 b2 b3 b4 b5 b6 b7 → μ b0 b1 b2 b3 b4 b5 b6 b7 < μ a0 a1 a2 a3 a4 a5 a6 a7 → K (b0, b1, b2, b3, b4, b5, b6, b7) = r b0 b1 b2 b3 b4 b5 b6 b7) → T K (a0, a1, a2, a3, a4, a5, a6, a7) = r a0 a1 a2 a3 a4 a5 a6 a7) (m : Nat) (a0 a1 a2 a3 a4 a5 a6 a7) (hi : Inv a0 a1 a2 a3 a4 a5 a6 a7) (hm : μ a0 a1 a2 a3 a4 a5 a6 a7 < m) : fixL T m (a0, a1, a2, a3, a4, a5, a6, a7) = r a0 a1 a2 a3 a4 a5 a6 a7 :=
  fixL_okO (fun | (a0, a1, a2, a3, a4, a5, a6, a7) => Inv a0 a1 a2 a3 a4 a5 a6 a7) (fun | (a0, a1, a2, a3, a4, a5, a6, a7) => μ a0 a1 a2 a3 a4 a5 a6 a7) (fun | (a0, a1, a2, a3, a4, a5, a6, a7) => r a0 a1 a2 a3 a4 a5 a6 a7) (fun | (a0, a1, a2, a3, a4, a5, a6, a7), K, hi, hK => h a0 a1 a2 a3 a4 a5 a6 a7 K hi fun b0 b1 b2 b3 b4 b5 b6 b7 hj hlt => hK (b0, b1, b2, b3, b4, b5, b6, b7) hj hlt) m (a0, a1, a2, a3, a4, a5, a6, a7) hi hm
theorem fo9 {A0 A1 A2 A3 A4 A5 A6 A7 A8 R : Type} {T : (A0 × A1 × A2 × A3 × A4 × A5 × A6 × A7 × A8 → Option R) → A0 × A1 × A2 × A3 × A4 × A5 × A6 × A7 × A8 → Option R} (Inv : A0 → A1 → A2 → A3 → A4 → A5 → A6 → A7 → A8 → Prop) (μ : A0 → A1 → A2 → A3 → A4 → A5 → A6 → A7 → A8 → Nat) (r : A0 → A1 → A2 → A3 → A4 → A5 → A6 → A7 → A8 → Option R)
    (h : ∀ a0 a1 a2 a3 a4 a5 a6 a7 a8 K, Inv a0 a1 a2 a3 a4 a5 a6 a7 a8 → (∀ b0 b1 b2 b3 b4 b5 b6 b7 b8, Inv b0 b1 b2 b3 b4 b5 b6 b7 b8 → μ b0 b1 b2 b3 b4 b5 b6 b7 b8 < μ a0 a1 a2 a3 a4 a5 a6 a7 a8 → K (b0, b1, b2, b3, b4, b5, b6, b7, b8) = r b0 b1 b2 b3 b4 b5 b6 b7 b8) → T K (a0, a1, a2, a3, a4, a5, a6, a7, a8) = r a0 a1 a2 a3 a4 a5 a6 a7 a8) (m : Nat) (a0 a1 a2 a3 a4 a5 a6 a7 a8) (hi : Inv a0 a1 a2 a3 a4 a5 a6 a7 a8) (hm : μ a0 a1 a2 a3 a4 a5 a6 a7 a8 < m) : fixL T m (a0, a1, a2, a3, a4, a5, a6, a7, a8) = r a0 a1 a2 a3 a4 a5 a6 a7 a8 :=
  fixL_okO (fun | (a0, a1, a2, a3, a4, a5, a6, a7, a8) => Inv a0 a1 a2 a3 a4 a5 a6 a7 a8) (fun | (a0, a1, a2, a3, a4, a5, a6, a7, a8) => μ a0 a1 a2 a3 a4 a5 a6 a7 a8) (fun | (a0, a1, a2, a3, a4, a5, a6, a7, a8) => r a0 a1 a2 a3 a4 a5 a6 a7 a8) (fun | (a0, a1, a2, a3, a4, a5, a6, a7, a8), K, hi, hK => h a0 a1 a2 a3 a4 a5 a6 a7 a8 K hi fun b0 b1 b2 b3 b4 b5 b6 b7 b8 hj hlt => hK (b0, b1, b2, b3, b4, b5, b6, b7, b8) hj hlt) m (a0, a1, a2, a3, a4, a5, a6, a7, a8) hi hm
theorem fo10 {A0 A1 A2 A3 A4 A5 A6 A7 A8 A9 R : Type} {T : (A0 × A1 × A2 × A3 × A4 × A5 × A6 × A7 × A8 × A9 → Option R) → A0 × A1 × A2 × A3 × A4 × A5 × A6 × A7 × A8 × A9 → Option R} (Inv : A0 → A1 → A2 → A3 → A4 → A5 → A6 → A7 → A8 → A9 → Prop) (μ : A0 → A1 → A2 → A3 → A4 → A5 → A6 → A7 → A8 → A9 → Nat) (r : A0 → A1 → A2 → A3 → A4 → A5 → A6 → A7 → A8 → A9 → Option R)
    (h : ∀ a0 a1 a2 a3 a4 a5 a6 a7 a8 a9 K, Inv a0 a1 a2 a3 a4 a5 a6 a7 a8 a9 → (∀ b0 b1 b2 b3 b4 b5 b6 b7 b8 b9, Inv b0 b1 b2 b3 b4 b5 b6 b7 b8 b9 → μ b0 b1 b2 b3 b4 b5 b6 b7 b8 b9 < μ a0 a1 a2 a3 a4 a5 a6 a7 a8 a9 → K (b0, b1, b2, b3, b4, b5, b6, b7, b8, b9) = r b0 b1 b2 b3 b4 b5 b6 b7 b8 b9) → T K (a0, a1, a2, a3, a4, a5, a6, a7, a8, a9) = r a0 a1 a2 a3 a4 a5 a6 a7 a8 a9) (m : Nat) (a0 a1 a2 a3 a4 a5 a6 a7 a8 a9) (hi : Inv a0 a1 a2 a3 a4 a5 a6 a7 a8 a9) (hm : μ a0 a1 a2 a3 a4 a5 a6 a7 a8 a9 < m) : fixL T m (a0, a1, a2, a3, a4, a5, a6, a7, a8, a9) = r a0 a1 a2 a3 a4 a5 a6 a7 a8 a9 :=
  fixL_okO (fun | (a0, a1, a2, a3, a4, a5, a6, a7, a8, a9) => Inv a0 a1 a2 a3 a4 a5 a6 a7 a8 a9) (fun | (a0, a1, a2, a3, a4, a5, a6, a7, a8, a9) => μ a0 a1 a2 a3 a4 a5 a6 a7 a8 a9) (fun | (a0, a1, a2, a3, a4, a5, a6, a7, a8, a9) => r a0 a1 a2 a3 a4 a5 a6 a7 a8 a9) (fun | (a0, a1, a2, a3, a4, a5, a6, a7, a8, a9), K, hi, hK => h a0 a1 a2 a3 a4 a5 a6 a7 a8 a9 K hi fun b0 b1 b2 b3 b4 b5 b6 b7 b8 b9 hj hlt => hK (b0, b1, b2, b3, b4, b5, b6, b7, b8, b9) hj hlt) m (a0, a1, a2, a3, a4, a5, a6, a7, a8, a9) hi hm
theorem fo11 {A0 A1 A2 A3 A4 A5 A6 A7 A8 A9 A10 R : Type} {T : (A0 × A1 × A2 × A3 × A4 × A5 × A6 × A7 × A8 × A9 × A10 → Option R) → A0 × A1 × A2 × A3 × A4 × A5 × A6 × A7 × A8 × A9 × A10 → Option R} (Inv : A0 → A1 → A2 → A3 → A4 → A5 → A6 → A7 → A8 → A9 → A10 → Prop) (μ : A0 → A1 → A2 → A3 → A4 → A5 → A6 → A7 → A8 → A9 → A10 → Nat) (r : A0 → A1 → A2 → A3 → A4 → A5 → A6 → A7 → A8 → A9 → A10 → Option R)
    (h : ∀ a0 a1 a2 a3 a4 a5 a6 a7 a8 a9 a10 K, Inv a0 a1 a2 a3 a4 a5 a6 a7 a8 a9 a10 → (∀ b0 b1 b2 b3 b4 b5 b6 b7 b8 b9 b10, Inv b0 b1 b2 b3 b4 b5 b6 b7 b8 b9 b10 → μ b0 b1 b2 b3 b4 b5 b6 b7 b8 b9 b10 < μ a0 a1 a2 a3 a4 a5 a6 a7 a8 a9 a10 → K (b0, b1, b2, b3, b4, b5, b6, b7, b8, b9, b10) = r b0 b1 b2 b3 b4 b5 b6 b7 b8 b9 b10) → T K (a0, a1, a2, a3, a4, a5, a6, a7, a8, a9, a10) = r a0 a1 a2 a3 a4 a5 a6 a7 a8 a9 a10) (m : Nat) (a0 a1 a2 a3 a4 a5 a6 a7 a8 a9 a10) (hi : Inv a0 a1 a2 a3 a4 a5 a6 a7 a8 a9 a10) (hm : μ a0 a1 a2 a3 a4 a5 a6 a7 a8 a9 a10 < m) : fixL T m (a0, a1, a2, a3, a4, a5, a6, a7, a8, a9, a10) = r a0 a1 a2 a3 a4 a5 a6 a7 a8 a9 a10 :=
  fixL_okO (fun | (a0, a1, a2, a3, a4, a5, a6, a7, a8, a9, a10) => Inv a0 a1 a2 a3 a4 a5 a6 a7 a8 a9 a10) (fun | (a0, a1, a2, a3, a4, a5, a6, a7, a8, a9, a10) => μ a0 a1 a2 a3 a4 a5 a6 a7 a8 a9 a10) (fun | (a0, a1, a2, a3, a4, a5, a6, a7, a8, a9, a10) => r a0 a1 a2 a3 a4 a5 a6 a7 a8 a9 a10) (fun | (a0, a1, a2, a3, a4, a5, a6, a7, a8, a9, a10), K, hi, hK => h a0 a1 a2 a3 a4 a5 a6 a7 a8 a9 a10 K hi fun b0 b1 b2 b3 b4 b5 b6 b7 b8 b9 b10 hj hlt => hK (b0, b1, b2, b3, b4, b5, b6, b7, b8, b9, b10) hj hlt) m (a0, a1, a2, a3, a4, a5, a6, a7, a8, a9, a10) hi hm
theorem fo12 {A0 A1 A2 A3 A4 A5 A6 A7 A8 A9 A10 A11 R : Type} {T : (A0 × A1 × A2 × A3 × A4 × A5 × A6 × A7 × A8 × A9 × A10 × A11 → Option R) → A0 × A1 × A2 × A3 × A4 × A5 × A6 × A7 × A8 × A9 × A10 × A11 → Option R} (Inv : A0 → A1 → A2 → A3 → A4 → A5 → A6 → A7 → A8 → A9 → A10 → A11 → Prop) (μ : A0 → A1 → A2 → A3 → A4 → A5 → A6 → A7 → A8 → A9 → A10 → A11 → Nat) (r : A0 → A1 → A2 → A3 → A4 → A5 → A6 → A7 → A8 → A9 → A10 → A11 → Option R)
    (h : ∀ a0 a1 a2 a3 a4 a5 a6 a7 a8 a9 a10 a11 K, Inv a0 a1 a2 a3 a4 a5 a6 a7 a8 a9 a10 a11 → (∀ b0 b1 b2 b3 b4 b5 b6 b7 b8 b9 b10 b11, Inv b0 b1 b2 b3 b4 b5 b6 b7 b8 b9 b10 b11 → μ b0 b1 b2 b3 b4 b5 b6 b7 b8 b9 b10 b11 < μ a0 a1 a2 a3 a4 a5 a6 a7 a8 a9 a10 a11 → K (b0, b1, b2, b3, b4, b5, b6, b7, b8, b9, b10, b11) = r b0 b1 b2 b3 b4 b5 b6 b7 b8 b9 b10 b11) → T K (a0, a1, a2, a3, a4, a5, a6, a7, a8, a9, a10, a11) = r a0 a1 a2 a3 a4 a5 a6 a7 a8 a9 a10 a11) (m : Nat) (a0 a1 a2 a3 a4 a5 a6 a7 a8 a9 a10 a11) (hi : Inv a0 a1 a2 a3 a4 a5 a6 a7 a8 a9 a10 a11) (hm : μ a0 a1 a2 a3 a4 a5 a6 a7 a8 a9 a10 a11 < m) : fixL T m (a0, a1, a2, a3, a4, a5, a6, a7, a8, a9, a10, a11) = r a0 a1 a2 a3 a4 a5 a6 a7 a8 a9 a10 a11 :=
  fixL_okO (fun | (a0, a1, a2, a3, a4, a5, a6, a7, a8, a9, a10, a11) => Inv a0 a1 a2 a3 a4 a5 a6 a7 a8 a9 a10 a11) (fun | (a0, a1, a2, a3, a4, a5, a6, a7, a8, a9, a10, a11) => μ a0 a1 a2 a3 a4 a5 a6 a7 a8 a9 a10 a11) (fun | (a0, a1, a2, a3, a4, a5, a6, a7, a8, a9, a10, a11) => r a0 a1 a2 a3 a4 a5 a6 a7 a8 a9 a10 a11) (fun | (a0, a1, a2, a3, a4, a5, a6, a7, a8, a9, a10, a11), K, hi, hK => h a0 a1 a2 a3 a4 a5 a6 a7 a8 a9 a10 a11 K hi fun b0 b1 b2 b3 b4 b5 b6 b7 b8 b9 b10 b11 hj hlt => hK (b0, b1, b2, b3, b4, b5, b6, b7, b8, b9, b10, b11) hj hlt) m (a0, a1, a2, a3, a4, a5, a6, a7, a8, a9, a10, a11) hi hm
/-- Is it so? -/
noncomputable def cdec (p : Prop) : Bool := @decide p (Classical.propDecidable p)
theorem cdec_iff {p : Prop} : cdec p = true ↔ p := by
  unfold cdec
  exact @decide_eq_true_iff _ (Classical.propDecidable _)
theorem cdec_t {p : Prop} (h : p) : cdec p = true := cdec_iff.2 h
theorem cdec_f {p : Prop} (h : ¬ p) : cdec p = false := by
  cases hc : cdec p with
  | false => rfl
  | true => exact absurd (cdec_iff.1 hc) h
theorem cdec_congr {p q : Prop} (h : p ↔ q) : cdec p = cdec q := bool_eq (by rw [cdec_iff, cdec_iff, h])
theorem cdec_dec {p : Prop} [Decidable p] : cdec p = decide p := bool_eq (by rw [cdec_iff, decide_eq_true_iff])
/-! ### Data at calls -/
abbrev I (n : Int) : DA := .c (.sc (.int .i64 n))
abbrev U (n : Int) : DA := .c (.sc (.int .u32 n))
abbrev B (b : Bool) : DA := .c (.sc (.bool b))
abbrev T (s : ByteArray) : DA := .c (.sc (.string s))
abbrev Is (l : List Int) : DA := .c (.row (.ints .i64 l))
abbrev Bs (l : List Int) : DA := .c (.row (.ints .u8 l))
abbrev Ts (l : List ByteArray) : DA := .c (.row (.strs l))
abbrev Es (l : List (List Int × ByteArray)) : DA := .c (.row (.eqs l))
abbrev So (c z : Int) (es : List (List Int × ByteArray)) : DA := .agg [.sc (.int .i64 c), .sc (.int .i64 z), .row (.eqs es)]
abbrev Eq1 (r : List Int) (d : ByteArray) : DA := .agg [.row (.ints .i64 r), .sc (.string d)]
abbrev rdC (b : List Int) (p : Int) : List SC := [.row (.ints .u8 b), .sc (.int .i64 p)]
abbrev Rd1 (b : List Int) (p : Int) : DA := .bx (rdC b p)
abbrev Pl (long size : Int) (win wgt : List Int) : DA := .agg [.sc (.int .i64 long), .sc (.int .i64 size), .row (.ints .i64 win), .row (.ints .i64 wgt)]
/-- Small: what lists and texts measure. -/
abbrev sm (n : Nat) : Bool := decide (n < 1000000000)
/-! ### Rows -/
/-! Rows as ascending lists, and as bits. -/
theorem asc_ext : ∀ {a b : List Int}, a.Pairwise (· < ·) → b.Pairwise (· < ·) → (∀ z, z ∈ a ↔ z ∈ b) → a = b
  | [], [], _, _, _ => rfl
  | [], y :: b, _, _, h => by have := (h y).2 List.mem_cons_self; cases this
  | x :: a, [], _, _, h => by have := (h x).1 List.mem_cons_self; cases this
  | x :: a, y :: b, ha, hb, h => by
    rw [List.pairwise_cons] at ha hb
    have e : x = y := by
      have h1 := (h x).1 List.mem_cons_self
      have h2 := (h y).2 List.mem_cons_self
      rcases List.mem_cons.1 h1 with h1 | h1
      · exact h1
      · rcases List.mem_cons.1 h2 with h2 | h2
        · exact h2.symm
        · have := ha.1 y h2
          have := hb.1 x h1
          omega
    subst e
    congr 1
    refine asc_ext ha.2 hb.2 fun z => ?_
    constructor
    · intro hz
      have h1 := (h z).1 (List.mem_cons_of_mem _ hz)
      rcases List.mem_cons.1 h1 with h1 | h1
      · have := ha.1 z hz
        omega
      · exact h1
    · intro hz
      have h1 := (h z).2 (List.mem_cons_of_mem _ hz)
      rcases List.mem_cons.1 h1 with h1 | h1
      · have := hb.1 z hz
        omega
      · exact h1
/-- What is in just one of two ascending lists. -/
def xorL : List Int → List Int → List Int
  | [], b => b
  | x :: a, [] => x :: a
  | x :: a, y :: b => if x < y then x :: xorL a (y :: b) else if y < x then y :: xorL (x :: a) b else xorL a b
termination_by a b => a.length + b.length
theorem xorL_nil_left (b : List Int) : xorL [] b = b := by unfold xorL; rfl
theorem xorL_nil_right (a : List Int) : xorL a [] = a := by cases a <;> simp [xorL]
theorem xorL_cons (x y : Int) (a b : List Int) : xorL (x :: a) (y :: b) = if x < y then x :: xorL a (y :: b) else if y < x then y :: xorL (x :: a) b else xorL a b := by rw [xorL]
theorem xorL_mem (a b : List Int) (ha : a.Pairwise (· < ·)) (hb : b.Pairwise (· < ·)) : (∀ z, z ∈ xorL a b ↔ ¬ (z ∈ a ↔ z ∈ b)) ∧ (xorL a b).Pairwise (· < ·) := by
  induction hn : a.length + b.length using Nat.strongRecOn generalizing a b with
  | _ n ih =>
  match a, b with
  | [], b => rw [xorL_nil_left]; exact ⟨fun z => by simp, hb⟩
  | x :: a, [] => rw [xorL_nil_right]; exact ⟨fun z => by by_cases h : z ∈ x :: a <;> simp only [h, List.not_mem_nil] <;> simp, ha⟩
  | x :: a, y :: b =>
    have ha' := List.pairwise_cons.1 ha
    have hb' := List.pairwise_cons.1 hb
    rw [xorL_cons]
    simp only [List.length_cons] at hn
    by_cases h1 : x < y
    · rw [if_pos h1]
      obtain ⟨im, ip⟩ := ih _ (by simp only [List.length_cons]; omega) a (y :: b) ha'.2 hb rfl
      have hxb : ∀ z ∈ y :: b, x < z := fun z hz => by
        rcases List.mem_cons.1 hz with rfl | hz
        · exact h1
        · have := hb'.1 z hz; omega
      refine ⟨fun z => ?_, List.pairwise_cons.2 ⟨fun z hz => ?_, ip⟩⟩
      · rw [List.mem_cons, im, List.mem_cons (a := z) (b := x)]
        by_cases hz : z = x
        · subst hz
          have : z ∉ y :: b := fun h => by have := hxb z h; omega
          simp [this]
        · simp [hz]
      · have h2 := (im z).1 hz
        by_cases hza : z ∈ a
        · exact ha'.1 z hza
        · by_cases hzb : z ∈ y :: b
          · exact hxb z hzb
          · exact absurd (by simp only [hza, hzb]) h2
    · rw [if_neg h1]
      by_cases h2 : y < x
      · rw [if_pos h2]
        obtain ⟨im, ip⟩ := ih _ (by simp only [List.length_cons]; omega) (x :: a) b ha hb'.2 rfl
        have hya : ∀ z ∈ x :: a, y < z := fun z hz => by
          rcases List.mem_cons.1 hz with rfl | hz
          · exact h2
          · have := ha'.1 z hz; omega
        refine ⟨fun z => ?_, List.pairwise_cons.2 ⟨fun z hz => ?_, ip⟩⟩
        · rw [List.mem_cons, im, List.mem_cons (a := z) (b := y)]
          by_cases hz : z = y
          · subst hz
            have : z ∉ x :: a := fun h => by have := hya z h; omega
            simp [this]
          · simp [hz]
        · have h3 := (im z).1 hz
          by_cases hza : z ∈ x :: a
          · exact hya z hza
          · by_cases hzb : z ∈ b
            · exact hb'.1 z hzb
            · exact absurd (by simp only [hza, hzb]) h3
      · rw [if_neg h2]
        have e : x = y := by omega
        subst e
        obtain ⟨im, ip⟩ := ih _ (by omega) a b ha'.2 hb'.2 rfl
        refine ⟨fun z => ?_, ip⟩
        rw [im, List.mem_cons, List.mem_cons]
        by_cases hz : z = x
        · subst hz
          have h4 : z ∉ a := fun h => by have := ha'.1 z h; omega
          have h5 : z ∉ b := fun h => by have := hb'.1 z h; omega
          simp [h4, h5]
        · simp [hz]
/-- A row's bits. -/
def maskN (l : List Int) : Nat := l.foldl (fun m n => m ||| 2 ^ n.toNat) 0
def maskFrom (m : Nat) (l : List Int) : Nat := l.foldl (fun m n => m ||| 2 ^ n.toNat) m
theorem maskFrom_bit (l : List Int) (h : ∀ x ∈ l, 0 ≤ x) : ∀ (m j : Nat), (maskFrom m l).testBit j = (m.testBit j || decide ((j : Int) ∈ l)) := by
  induction l with
  | nil => intro m j; simp [maskFrom]
  | cons x l ih =>
    intro m j
    have := ih (fun y hy => h y (List.mem_cons_of_mem _ hy)) (m ||| 2 ^ x.toNat) j
    show (maskFrom (m ||| 2 ^ x.toNat) l).testBit j = _
    rw [this, Nat.testBit_or, Nat.testBit_two_pow]
    have hx := h x List.mem_cons_self
    have e : decide (x.toNat = j) = decide ((j : Int) = x) := by
      apply decide_eq_decide.2
      omega
    rw [e]
    simp [Bool.or_assoc, List.mem_cons]
theorem maskN_bit (l : List Int) (h : ∀ x ∈ l, 0 ≤ x) (j : Nat) : (maskN l).testBit j = decide ((j : Int) ∈ l) := by
  have := maskFrom_bit l h 0 j
  simpa [maskFrom, maskN] using this
theorem maskFrom_lt (l : List Int) (c : Nat) (h : ∀ x ∈ l, 0 ≤ x ∧ x < c) : ∀ m, m < 2 ^ c → maskFrom m l < 2 ^ c := by
  induction l with
  | nil => intro m hm; simpa [maskFrom] using hm
  | cons x l ih =>
    intro m hm
    have hx := h x List.mem_cons_self
    exact ih (fun y hy => h y (List.mem_cons_of_mem _ hy)) _ (Nat.or_lt_two_pow hm (Nat.pow_lt_pow_right (by decide) (by omega)))
theorem maskN_lt (l : List Int) (c : Nat) (h : ∀ x ∈ l, 0 ≤ x ∧ x < c) : maskN l < 2 ^ c := maskFrom_lt l c h 0 (Nat.two_pow_pos c)
/-- The row of bits. -/
def rowN (m : Nat) : List Int := ((List.range 24).filter fun j => m.testBit j).map fun j : Nat => (j : Int)
theorem rowN_mem (m : Nat) (z : Int) : z ∈ rowN m ↔ 0 ≤ z ∧ z < 24 ∧ m.testBit z.toNat = true := by
  unfold rowN
  simp only [List.mem_map, List.mem_filter, List.mem_range]
  constructor
  · rintro ⟨j, ⟨h1, h2⟩, rfl⟩
    exact ⟨by omega, by omega, by simpa using h2⟩
  · rintro ⟨h0, h1, h2⟩
    exact ⟨z.toNat, ⟨by omega, h2⟩, by omega⟩
theorem rowN_asc (m : Nat) : (rowN m).Pairwise (· < ·) := by
  unfold rowN
  rw [List.pairwise_map]
  refine List.Pairwise.imp (R := (· < ·)) (fun {a b} h => by omega) ?_
  exact List.Pairwise.filter _ List.pairwise_lt_range
theorem rowN_maskN (l : List Int) (ha : l.Pairwise (· < ·)) (h : ∀ x ∈ l, 0 ≤ x ∧ x < 24) : rowN (maskN l) = l := by
  refine asc_ext (rowN_asc _) ha fun z => ?_
  rw [rowN_mem, maskN_bit l (fun x hx => (h x hx).1)]
  constructor
  · rintro ⟨h0, _, h2⟩
    rw [Int.toNat_of_nonneg h0] at h2
    simpa using h2
  · intro hz
    have := h z hz
    refine ⟨this.1, this.2, ?_⟩
    rw [Int.toNat_of_nonneg this.1]
    simpa using hz
theorem maskN_rowN (m : Nat) (h : m < 2 ^ 24) : maskN (rowN m) = m := by
  refine Nat.eq_of_testBit_eq fun j => ?_
  rw [maskN_bit _ (fun x hx => ((rowN_mem m x).1 hx).1)]
  rcases Nat.lt_or_ge j 24 with hj | hj
  · cases hb : m.testBit j
    · rw [decide_eq_false_iff_not, rowN_mem]
      simp [hb]
    · rw [decide_eq_true_iff, rowN_mem]
      exact ⟨by omega, by omega, by simpa using hb⟩
  · rw [Nat.testBit_lt_two_pow (Nat.lt_of_lt_of_le h (Nat.pow_le_pow_right (by decide) hj)), decide_eq_false_iff_not, rowN_mem]
    omega
theorem xorL_rowN (a b : List Int) (ha : a.Pairwise (· < ·)) (hb : b.Pairwise (· < ·)) (ha' : ∀ x ∈ a, 0 ≤ x ∧ x < 24) (hb' : ∀ x ∈ b, 0 ≤ x ∧ x < 24) : rowN (maskN a ^^^ maskN b) = xorL a b := by
  obtain ⟨hm, hp⟩ := xorL_mem a b ha hb
  refine asc_ext (rowN_asc _) hp fun z => ?_
  rw [rowN_mem, hm, Nat.testBit_xor, maskN_bit a (fun x hx => (ha' x hx).1), maskN_bit b (fun x hx => (hb' x hx).1)]
  constructor
  · rintro ⟨h0, _, h2⟩
    rw [Int.toNat_of_nonneg h0] at h2
    by_cases h3 : z ∈ a <;> by_cases h4 : z ∈ b <;> simp_all
  · intro h
    have h0 : 0 ≤ z ∧ z < 24 := by
      by_cases h3 : z ∈ a
      · exact ha' z h3
      · by_cases h4 : z ∈ b
        · exact hb' z h4
        · simp [h3, h4] at h
    refine ⟨h0.1, h0.2, ?_⟩
    rw [Int.toNat_of_nonneg h0.1]
    by_cases h3 : z ∈ a <;> by_cases h4 : z ∈ b <;> simp_all
theorem xorL_in (a b : List Int) (ha : a.Pairwise (· < ·)) (hb : b.Pairwise (· < ·)) (c : Int) (ha' : ∀ x ∈ a, 0 ≤ x ∧ x < c) (hb' : ∀ x ∈ b, 0 ≤ x ∧ x < c) : ∀ x ∈ xorL a b, 0 ≤ x ∧ x < c := by
  intro x hx
  have := ((xorL_mem a b ha hb).1 x).1 hx
  by_cases h3 : x ∈ a
  · exact ha' x h3
  · by_cases h4 : x ∈ b
    · exact hb' x h4
    · simp [h3, h4] at this
theorem asc_length (a : List Int) (ha : a.Pairwise (· < ·)) (c : Nat) (h : ∀ x ∈ a, 0 ≤ x ∧ x < c) : a.length ≤ c := by
  have key : ∀ (l : List Int) (lo : Int), l.Pairwise (· < ·) → (∀ x ∈ l, lo ≤ x ∧ x < c) → (l.length : Int) ≤ max 0 (c - lo) := by
    intro l
    induction l with
    | nil => intro lo _ _; simp; omega
    | cons x l ih =>
      intro lo hp hx
      have hp' := List.pairwise_cons.1 hp
      have := ih (x + 1) hp'.2 fun y hy => ⟨by have := hp'.1 y hy; omega, (hx y (List.mem_cons_of_mem _ hy)).2⟩
      have h0 := hx x List.mem_cons_self
      simp only [List.length_cons]
      omega
  have := key a 0 ha h
  omega

/-! ### Bits of 32 -/
theorem shl32 (n : Int) (h0 : 0 ≤ n) (h1 : n < 32) : IntKind.wrap .u32 (1 * 2 ^ min n.toNat (IntKind.bits .u32)) = ((2 ^ n.toNat : Nat) : Int) := by
  have e : min n.toNat (IntKind.bits .u32) = n.toNat := Nat.min_eq_left (show n.toNat ≤ 32 by omega)
  rw [e, Int.one_mul]
  have h2 : 2 ^ n.toNat < 2 ^ 32 := Nat.pow_lt_pow_right (by decide) (by omega)
  have h3 : ((2 : Int) ^ n.toNat) = ((2 ^ n.toNat : Nat) : Int) := by rw [Int.natCast_pow]; rfl
  rw [h3]
  exact u32wrap (Int.natCast_nonneg _) (by have h4 := Int.ofNat_lt.2 h2; exact h4)
theorem or32 (a b : Nat) (ha : a < 2 ^ 32) (hb : b < 2 ^ 32) : IntKind.wrap .u32 ↑(BitVec.toNat (BitVec.ofInt (IntKind.bits .u32) (a : Int) ||| BitVec.ofInt (IntKind.bits .u32) (b : Int))) = ((a ||| b : Nat) : Int) := by
  have hc := Nat.or_lt_two_pow ha hb
  simp only [BitVec.ofInt_natCast, BitVec.toNat_or, BitVec.toNat_ofNat]
  rw [Nat.mod_eq_of_lt (show a < 2 ^ IntKind.u32.bits from ha), Nat.mod_eq_of_lt (show b < 2 ^ IntKind.u32.bits from hb)]
  exact u32wrap (by omega) (by omega)
theorem xor32 (a b : Nat) (ha : a < 2 ^ 32) (hb : b < 2 ^ 32) : IntKind.wrap .u32 ↑(BitVec.toNat (BitVec.ofInt (IntKind.bits .u32) (a : Int) ^^^ BitVec.ofInt (IntKind.bits .u32) (b : Int))) = ((a ^^^ b : Nat) : Int) := by
  have hc := Nat.xor_lt_two_pow ha hb
  simp only [BitVec.ofInt_natCast, BitVec.toNat_xor, BitVec.toNat_ofNat]
  rw [Nat.mod_eq_of_lt (show a < 2 ^ IntKind.u32.bits from ha), Nat.mod_eq_of_lt (show b < 2 ^ IntKind.u32.bits from hb)]
  exact u32wrap (by omega) (by omega)
theorem and32 (a b : Nat) (ha : a < 2 ^ 32) (hb : b < 2 ^ 32) : IntKind.wrap .u32 ↑(BitVec.toNat (BitVec.ofInt (IntKind.bits .u32) (a : Int) &&& BitVec.ofInt (IntKind.bits .u32) (b : Int))) = ((a &&& b : Nat) : Int) := by
  have hc := Nat.and_lt_two_pow a hb
  simp only [BitVec.ofInt_natCast, BitVec.toNat_and, BitVec.toNat_ofNat]
  rw [Nat.mod_eq_of_lt (show a < 2 ^ IntKind.u32.bits from ha), Nat.mod_eq_of_lt (show b < 2 ^ IntKind.u32.bits from hb)]
  exact u32wrap (by omega) (by omega)
theorem bit32 (m : Nat) (hm : m < 2 ^ 32) (n : Int) (h0 : 0 ≤ n) (h1 : n < 32) : (IntKind.wrap .u32 ↑(BitVec.toNat (BitVec.ofInt (IntKind.bits .u32) (Int.fdiv (m : Int) (2 ^ min n.toNat (IntKind.bits .u32))) &&& BitVec.ofInt (IntKind.bits .u32) 1)) == 1) = m.testBit n.toNat := by
  have e : min n.toNat (IntKind.bits .u32) = n.toNat := Nat.min_eq_left (show n.toNat ≤ 32 by omega)
  have e2 : Int.fdiv (m : Int) (2 ^ n.toNat) = ((m >>> n.toNat : Nat) : Int) := by
    rw [Int.fdiv_eq_ediv_of_nonneg _ (Int.pow_nonneg (by decide)), Nat.shiftRight_eq_div_pow, Int.natCast_ediv, Int.natCast_pow]; rfl
  rw [e, e2]
  have h := and32 (m >>> n.toNat) 1 (Nat.lt_of_le_of_lt (Nat.shiftRight_le _ _) hm) (by decide)
  rw [show ((1 : Nat) : Int) = 1 from rfl] at h
  rw [h, Nat.and_one_is_mod, Nat.shiftRight_eq_div_pow, ← Nat.toNat_testBit]
  cases m.testBit n.toNat <;> rfl
/-! ### Blocks -/
def bA (a : ByteArray) (j : Nat) : Nat := (a.data.toList.getD j 0).toNat
def xorB (a b : ByteArray) : ByteArray := ⟨(List.zipWith (· ^^^ ·) a.data.toList b.data.toList).toArray⟩
theorem bt_bA (a : ByteArray) (i : Int) : bt a i = ((bA a i.toNat : Nat) : Int) := rfl
theorem xorB_size (a b : ByteArray) (h : a.size ≤ b.size) : (xorB a b).size = a.size := by
  show (List.zipWith (· ^^^ ·) a.data.toList b.data.toList).length = a.data.size
  have h' : a.data.size ≤ b.data.size := h
  rw [List.length_zipWith, Array.length_toList, Array.length_toList, Nat.min_eq_left h']
theorem bA_xorB (a b : ByteArray) (j : Nat) (h : j < a.size) (hs : a.size ≤ b.size) : bA (xorB a b) j = bA a j ^^^ bA b j := by
  have ha : j < a.data.toList.length := by simpa using h
  have hb : j < b.data.toList.length := by
    have e : b.data.toList.length = b.size := Array.length_toList
    omega
  unfold bA xorB
  simp only [List.getD_eq_getElem?_getD, List.getElem?_zipWith, List.getElem?_eq_getElem ha, List.getElem?_eq_getElem hb]
  exact UInt8.toNat_xor _ _
theorem bA_lt (a : ByteArray) (j : Nat) : bA a j < 256 := by
  unfold bA
  exact UInt8.toNat_lt _
theorem ba_ext {a b : ByteArray} (h : a.size = b.size) (hj : ∀ j, j < a.size → bA a j = bA b j) : a = b := by
  apply ByteArray.ext
  apply Array.toList_inj.1
  have hs : a.data.toList.length = b.data.toList.length := by
    rw [Array.length_toList, Array.length_toList]
    exact h
  refine List.ext_getElem hs fun j h1 h2 => ?_
  have h3 : j < a.size := by
    rw [Array.length_toList] at h1
    exact h1
  have h4 := hj j h3
  unfold bA at h4
  rw [List.getD_eq_getElem?_getD, List.getD_eq_getElem?_getD, List.getElem?_eq_getElem h1, List.getElem?_eq_getElem h2] at h4
  exact UInt8.toNat_inj.1 h4
theorem strOf_data (xs : List Int) : (strOf xs).data.toList = xs.map fun n => UInt8.ofNat n.toNat := by simp [strOf]
theorem strOf_size (xs : List Int) : (strOf xs).size = xs.length := by
  show (strOf xs).data.size = _
  rw [← Array.length_toList, strOf_data, List.length_map]
theorem bA_str (xs : List Int) (j : Nat) (h : j < xs.length) (h0 : ∀ x ∈ xs, 0 ≤ x ∧ x < 256) : ((bA (strOf xs) j : Nat) : Int) = xs.getD j 0 := by
  unfold bA
  rw [strOf_data, List.getD_eq_getElem?_getD, List.getElem?_map, List.getD_eq_getElem?_getD, List.getElem?_eq_getElem h]
  have := h0 _ (List.getElem_mem h)
  show ((UInt8.ofNat xs[j].toNat).toNat : Int) = xs[j]
  rw [UInt8.toNat_ofNat']
  omega
theorem xor8 (a b : Nat) (ha : a < 256) (hb : b < 256) : IntKind.wrap .u8 ↑(BitVec.toNat (BitVec.ofInt (IntKind.bits .u8) (a : Int) ^^^ BitVec.ofInt (IntKind.bits .u8) (b : Int))) = ((a ^^^ b : Nat) : Int) := by
  have hc : a ^^^ b < 2 ^ 8 := Nat.xor_lt_two_pow ha hb
  simp only [BitVec.ofInt_natCast, BitVec.toNat_xor, BitVec.toNat_ofNat]
  rw [Nat.mod_eq_of_lt (show a < 2 ^ IntKind.u8.bits from ha), Nat.mod_eq_of_lt (show b < 2 ^ IntKind.u8.bits from hb)]
  exact u8wrap (by omega) (by omega)
theorem xorB_self_comm {a b : ByteArray} (h : a.size = b.size) : xorB a b = xorB b a := by
  refine ba_ext (by rw [xorB_size a b (by omega), xorB_size b a (by omega), h]) fun j hj => ?_
  rw [xorB_size a b (by omega)] at hj
  rw [bA_xorB a b j hj (by omega), bA_xorB b a j (by omega) (by omega), Nat.xor_comm]
theorem xorB_assoc {a b c : ByteArray} (h : a.size = b.size) (h2 : b.size = c.size) : xorB (xorB a b) c = xorB a (xorB b c) := by
  have s1 := xorB_size a b (by omega)
  have s2 := xorB_size b c (by omega)
  refine ba_ext (by rw [xorB_size (xorB a b) c (by omega), s1, xorB_size a (xorB b c) (by omega)]) fun j hj => ?_
  rw [xorB_size (xorB a b) c (by omega), s1] at hj
  rw [bA_xorB (xorB a b) c j (by omega) (by omega), bA_xorB a b j hj (by omega), bA_xorB a (xorB b c) j hj (by omega), bA_xorB b c j (by omega) (by omega), Nat.xor_assoc]
theorem xorB_back {a b : ByteArray} (h : a.size = b.size) : xorB (xorB a b) b = a := by
  have s1 := xorB_size a b (by omega)
  refine ba_ext (by rw [xorB_size (xorB a b) b (by omega), s1]) fun j hj => ?_
  rw [xorB_size (xorB a b) b (by omega), s1] at hj
  rw [bA_xorB (xorB a b) b j (by omega) (by omega), bA_xorB a b j hj (by omega), Nat.xor_assoc, Nat.xor_self, Nat.xor_zero]
/-- A list of both, byte on byte. -/
def xorN (a b : ByteArray) (n : Nat) : List Int := (List.range n).map fun j => (((bA a j ^^^ bA b j : Nat)) : Int)
theorem xorN_str (a b : ByteArray) (hs : a.size ≤ b.size) : strOf (xorN a b a.size) = xorB a b := by
  refine ba_ext ?_ fun j hj => ?_
  · rw [strOf_size, xorN, List.length_map, List.length_range, xorB_size _ _ hs]
  · rw [strOf_size, xorN, List.length_map, List.length_range] at hj
    have h1 := bA_str (xorN a b a.size) j (by simpa [xorN] using hj) (by
      intro x hx
      obtain ⟨j', _, rfl⟩ := List.mem_map.1 hx
      have := Nat.xor_lt_two_pow (n := 8) (bA_lt a j') (bA_lt b j')
      omega)
    rw [bA_xorB _ _ _ hj hs]
    have h2 : (xorN a b a.size).getD j 0 = ((bA a j ^^^ bA b j : Nat) : Int) := by
      rw [xorN, List.getD_eq_getElem?_getD, List.getElem?_map, List.getElem?_range hj]
      rfl
    rw [h2] at h1
    exact Int.ofNat_inj.1 h1
theorem xorN_succ (a b : ByteArray) (n : Nat) : xorN a b (n + 1) = xorN a b n ++ [((bA a n ^^^ bA b n : Nat) : Int)] := by
  rw [xorN, List.range_succ, List.map_append]; rfl
/-- n bytes that are 0. -/
def zerosB (n : Nat) : ByteArray := strOf (List.replicate n 0)
theorem zerosB_size (n : Nat) : (zerosB n).size = n := by
  unfold zerosB
  rw [strOf_size, List.length_replicate]
theorem bA_zeros (n j : Nat) : bA (zerosB n) j = 0 := by
  unfold bA zerosB
  rw [strOf_data, List.map_replicate, List.getD_eq_getElem?_getD, List.getElem?_replicate]
  split <;> rfl
theorem zerosB_add (m n : Nat) : zerosB m ++ zerosB n = zerosB (m + n) := by
  apply ByteArray.ext
  apply Array.toList_inj.1
  rw [ByteArray.data_append, Array.toList_append]
  unfold zerosB
  rw [strOf_data, strOf_data, strOf_data, ← List.map_append, List.replicate_append_replicate]
end Vx.N
/- A law's arguments, opened into data. -/
namespace Vx
open Go Go.RowKit Go.ChangeShapes Go.WideShapes

abbrev inW (W : World) (j : Nat) : Prop := j < W.heap.size
/-- What reads as data of type t has cells that stand for data, and good ones. -/
def Rdg (P : Program) (t : TypeId) (n : Nat) (good : List SC → Prop) : Prop :=
  P.cellsOf t = n ∧ ∀ {H : Type} (enc : TypeId × Value → H) (W : World) (sp : Nat → Bool) (hd : Bool) (fuel : Nat) (cs : List Value) (x : DataW H × List MemPlace),
    DataW.trod enc P W 0 sp hd fuel t cs = some x → ∃ xs : List SC, cs.length = n ∧ All2 (SCRep W (inW W)) cs xs ∧ good xs
theorem rdg_int {P : Program} {t : TypeId} (k : IntKind) (ht : P.underlying t = some (.int k)) (hc : P.cellsOf t = 1) : Rdg P t 1 (fun xs => ∃ n, xs = [.sc (.int k n)] ∧ (Lit.int k n).wf = true) := by
  refine ⟨hc, fun enc W sp hd fuel cs x h => ?_⟩
  obtain ⟨n, rfl, _, hw⟩ := DataW.trod_int ht h
  exact ⟨[.sc (.int k n)], rfl, .cons rfl .nil, n, rfl, hw⟩
theorem rdg_str {P : Program} {t : TypeId} (ht : P.underlying t = some .string) (hc : P.cellsOf t = 1) : Rdg P t 1 (fun xs => ∃ s : ByteArray, xs = [.sc (.string s)] ∧ s.size ≤ maxLen) := by
  refine ⟨hc, fun enc W sp hd fuel cs x h => ?_⟩
  obtain ⟨s, rfl, _, hw⟩ := DataW.trod_string ht h
  exact ⟨[.sc (.string s)], rfl, .cons rfl .nil, s, rfl, hw⟩
/-- A slice: its elements' data, by a row's kind. -/
theorem rdg_slice {α : Type} [Inhabited α] {P : Program} {t e : TypeId} {sz : Nat} (mk : List α → Row) (toDC : α → List DC) (hwd : ∀ xs, (mk xs).wd = sz) (hlen : ∀ xs, (mk xs).len = xs.length) (hcells : ∀ xs i (h : i < xs.length), (mk xs).cells i = toDC xs[i])
    {good : α → Prop} (ht : P.underlying t = some (.slice e)) (hc : P.cellsOf t = 1) (hce : P.cellsOf e = sz)
    (he : ∀ {H : Type} (enc : TypeId × Value → H) (W : World) (sp : Nat → Bool) (hd : Bool) (fuel : Nat) (cs : List Value) (x : DataW H × List MemPlace), DataW.trod enc P W 0 sp hd fuel e cs = some x → ∃ a, cs.length = sz ∧ All2 (DRep W (inW W)) cs (toDC a) ∧ good a) :
    Rdg P t 1 (fun xs => ∃ l, xs = [.row (mk l)] ∧ l.length ≤ maxLen ∧ ∀ x ∈ l, good x) := by
  have hpos : 0 < sz := by rw [← hwd []]; exact wd_pos _
  refine ⟨hc, fun enc W sp hd fuel cs x h => ?_⟩
  rcases Go.Deep.open_slice ht h with ⟨rfl, _⟩ | ⟨a, len, cap, m, n, D, Pl, rfl, _, hl, hm, hmm, _, hx⟩
  · exact ⟨[.row (mk [])], rfl, .cons ⟨none, 0, by rw [hlen]; rfl, by rw [hlen]; simp, fun h0 => by rw [hlen] at h0; simp at h0⟩ .nil, [], rfl, by simp, by simp⟩
  · have hlm : len ≤ m := by rw [hmm]; split <;> omega
    obtain ⟨f, hf⟩ := Go.Deep.choose_lt (α := α) (n := len) (p := fun i p => good p ∧ ∃ c : List Value, c.length = sz ∧ All2 (DRep W (inW W)) c (toDC p) ∧ ∀ j u, c[j]? = some u → W.cell? (a.add (i * sz + j)) = some u) (fun i hi => by
      obtain ⟨cs', h1, h2⟩ := hx i (by omega)
      obtain ⟨p, hp, hr, hg⟩ := he enc W sp hd n cs' _ h2
      obtain ⟨_, hcl, hat⟩ := World.cells?_some h1
      rw [hce] at hcl hat
      refine ⟨p, hg, cs', hcl, hr, fun j u hu => ?_⟩
      have hj : j < cs'.length := (List.getElem?_eq_some_iff.1 hu).1
      have := hat j (by omega)
      rw [Vx.add_add] at this
      rw [this, hu])
    have hll : ((List.range len).map f).length = len := by simp
    refine ⟨[.row (mk ((List.range len).map f))], rfl, .cons ⟨some a, cap, by rw [hlen, hll], by rw [hlen, hll]; exact hl, fun h0 => ⟨a, rfl, ?_, fun j c hj => ?_⟩⟩ .nil, (List.range len).map f, rfl, by simp; omega, fun p hp => ?_⟩
    · rw [hlen, hll] at h0
      obtain ⟨_, c, h1, _, h3⟩ := hf 0 h0
      have hc0 := h3 0 _ (List.getElem?_eq_getElem (by omega))
      have := World.block_lt_of_cell? W _ hc0
      rw [add_block] at this
      exact this
    · have hjl := (List.getElem?_eq_some_iff.1 hj).1
      rw [flat_len, hlen, hll, hwd] at hjl
      have hi : j / sz < len := Nat.div_lt_of_lt_mul (by rw [Nat.mul_comm]; exact hjl)
      have hr : j % sz < sz := Nat.mod_lt _ hpos
      have hdec : j / sz * sz + j % sz = j := by rw [Nat.mul_comm]; exact Nat.div_add_mod j sz
      have e1 := flat_cells (mk ((List.range len).map f)) (e := j / sz) (by rw [hlen, hll]; exact hi) (j % sz) (by rw [hwd]; exact hr)
      rw [hwd, hdec, hj, hcells _ _ (by rw [hll]; exact hi)] at e1
      obtain ⟨_, cc, h1, h2, h3⟩ := hf (j / sz) hi
      have e2 : ((List.range len).map f)[j / sz]'(by rw [hll]; exact hi) = f (j / sz) := by simp
      rw [e2] at e1
      obtain ⟨u, hu1, hu2⟩ := h2.get _ _ e1.symm
      refine ⟨u, ?_, hu2⟩
      have := h3 _ _ hu1
      rw [hdec] at this
      exact this
    · obtain ⟨i, hi, rfl⟩ := List.mem_map.1 hp
      exact (hf i (List.mem_range.1 hi)).1
theorem rdg_ints {P : Program} {t e : TypeId} (k : IntKind) (ht : P.underlying t = some (.slice e)) (hc : P.cellsOf t = 1) (he : P.underlying e = some (.int k)) (hce : P.cellsOf e = 1) : Rdg P t 1 (fun xs => ∃ l, xs = [.row (.ints k l)] ∧ l.length ≤ maxLen ∧ ∀ x ∈ l, (Lit.int k x).wf = true) :=
  rdg_slice (α := Int) (fun l => .ints k l) (fun n => [.sc (.int k n)]) (fun _ => rfl) (fun _ => rfl) (fun xs i h => by simp [Row.cells, List.getD, h]) ht hc hce fun enc W sp hd fuel cs x h => by
    obtain ⟨n, rfl, _, hw⟩ := DataW.trod_int he h
    exact ⟨n, rfl, .cons rfl .nil, hw⟩
theorem rdg_strs {P : Program} {t e : TypeId} (ht : P.underlying t = some (.slice e)) (hc : P.cellsOf t = 1) (he : P.underlying e = some .string) (hce : P.cellsOf e = 1) : Rdg P t 1 (fun xs => ∃ l, xs = [.row (.strs l)] ∧ l.length ≤ maxLen ∧ ∀ x ∈ l, x.size ≤ maxLen) :=
  rdg_slice (α := ByteArray) (fun l => .strs l) (fun s => [.sc (.string s)]) (fun _ => rfl) (fun _ => rfl) (fun xs i h => by simp [Row.cells, List.getD, h]) ht hc hce fun enc W sp hd fuel cs x h => by
    obtain ⟨s, rfl, _, hw⟩ := DataW.trod_string he h
    exact ⟨s, rfl, .cons rfl .nil, hw⟩
theorem row_ir {W : World} {u : Value} {l : List Int} (h : RowRep W (inW W) u (.ints .i64 l)) : DRep W (inW W) u (.ir l) := by
  obtain ⟨A, cap, h1, h2, h3⟩ := h
  refine ⟨A, cap, h1, h2, fun h0 => ?_⟩
  obtain ⟨ad, ha, hb, hc⟩ := h3 h0
  refine ⟨ad, ha, hb, fun j hj => ?_⟩
  obtain ⟨x, hx1, hx2⟩ := hc j (.sc (.int .i64 (l.getD j 0))) (by simp [Row.flat, List.getD, hj])
  rw [hx1]; exact congrArg some hx2
theorem rdg_eqs {P : Program} {t e : TypeId} {f0 f1 : Field} (ht : P.underlying t = some (.slice e)) (hc : P.cellsOf t = 1) (he : P.underlying e = some (.struct #[f0, f1])) (hce : P.cellsOf e = 2) (o0 : f0.offset = 0) (o1 : f1.offset = 1)
    {i : TypeId} (h0 : P.underlying f0.type = some (.slice i)) (c0 : P.cellsOf f0.type = 1) (hi : P.underlying i = some (.int .i64)) (ci : P.cellsOf i = 1) (h1 : P.underlying f1.type = some .string) (c1 : P.cellsOf f1.type = 1) :
    Rdg P t 1 (fun xs => ∃ l, xs = [.row (.eqs l)] ∧ l.length ≤ maxLen ∧ ∀ x ∈ l, x.1.length ≤ maxLen ∧ x.2.size ≤ maxLen) :=
  rdg_slice (α := List Int × ByteArray) (fun l => .eqs l) (fun x => [.ir x.1, .sc (.string x.2)]) (fun _ => rfl) (fun _ => rfl) (fun xs i h => by simp [Row.cells, List.getD, h]) ht hc hce fun enc W sp hd fuel cs x h => by
    obtain ⟨y0, y1, n, _, hl, e0, e1⟩ := trod_struct2 he h
    obtain ⟨xs0, l0, r0, l, rfl, g1, g2⟩ := (rdg_ints .i64 h0 c0 hi ci).2 enc W sp hd n _ _ e0
    obtain ⟨s, hs, _, g3⟩ := DataW.trod_string h1 e1
    rw [hce] at hl
    rw [o0, c0, List.drop_zero] at r0
    rw [o1, c1] at hs
    match cs, hl with
    | [u0, u1], _ =>
      refine ⟨(l, s), rfl, .cons ?_ (.cons ?_ .nil), g1, g3⟩
      · cases r0 with
        | cons h1 _ => exact row_ir h1
      · have : u1 = .string s := by simpa using hs
        exact this
/-! structs -/
theorem All2.app {α β : Type} {R : α → β → Prop} {a a' : List α} {b b' : List β} (h : All2 R a b) (h' : All2 R a' b') : All2 R (a ++ a') (b ++ b') := h.append h'
theorem rdg_struct2 {P : Program} {t : TypeId} {f0 f1 : Field} {n0 n1 : Nat} {g0 g1 : List SC → Prop} (ht : P.underlying t = some (.struct #[f0, f1])) (hc : P.cellsOf t = n0 + n1) (o0 : f0.offset = 0) (o1 : f1.offset = n0) (h0 : Rdg P f0.type n0 g0) (h1 : Rdg P f1.type n1 g1) :
    Rdg P t (n0 + n1) (fun xs => ∃ a b, xs = a ++ b ∧ g0 a ∧ g1 b) := by
  refine ⟨hc, fun enc W sp hd fuel cs x h => ?_⟩
  obtain ⟨y0, y1, n, _, hl, e0, e1⟩ := trod_struct2 ht h
  obtain ⟨a, l0, r0, k0⟩ := h0.2 enc W sp hd n _ _ e0
  obtain ⟨b, l1, r1, k1⟩ := h1.2 enc W sp hd n _ _ e1
  rw [o0, h0.1, List.drop_zero] at r0
  rw [o1, h1.1] at r1
  refine ⟨a ++ b, by rw [hl, hc], ?_, a, b, rfl, k0, k1⟩
  have := r0.append r1
  rwa [List.take_of_length_le (l := cs.drop n0) (by rw [List.length_drop]; omega), List.take_append_drop] at this
theorem rdg_struct3 {P : Program} {t : TypeId} {f0 f1 f2 : Field} {n0 n1 n2 : Nat} {g0 g1 g2 : List SC → Prop} (ht : P.underlying t = some (.struct #[f0, f1, f2])) (hc : P.cellsOf t = n0 + (n1 + n2)) (o0 : f0.offset = 0) (o1 : f1.offset = n0) (o2 : f2.offset = n0 + n1) (h0 : Rdg P f0.type n0 g0) (h1 : Rdg P f1.type n1 g1) (h2 : Rdg P f2.type n2 g2) :
    Rdg P t (n0 + (n1 + n2)) (fun xs => ∃ a b c, xs = a ++ (b ++ c) ∧ g0 a ∧ g1 b ∧ g2 c) := by
  refine ⟨hc, fun enc W sp hd fuel cs x h => ?_⟩
  obtain ⟨xs, n, _, _, hl, hlen, hg⟩ := DataW.trod_struct ht h
  match xs, hlen with
  | [y0, y1, y2], _ =>
    obtain ⟨a, l0, r0, k0⟩ := h0.2 enc W sp hd n _ _ (hg 0 f0 rfl)
    obtain ⟨b, l1, r1, k1⟩ := h1.2 enc W sp hd n _ _ (hg 1 f1 rfl)
    obtain ⟨c, l2, r2, k2⟩ := h2.2 enc W sp hd n _ _ (hg 2 f2 rfl)
    rw [o0, h0.1, List.drop_zero] at r0
    rw [o1, h1.1] at r1
    rw [o2, h2.1] at r2
    refine ⟨a ++ (b ++ c), by rw [hl, hc], ?_, a, b, c, rfl, k0, k1, k2⟩
    have := r0.append (r1.append r2)
    rwa [List.take_of_length_le (l := cs.drop (n0 + n1)) (by rw [List.length_drop]; omega), ← List.drop_drop, List.take_append_drop, List.take_append_drop] at this
theorem rdg_struct4 {P : Program} {t : TypeId} {f0 f1 f2 f3 : Field} {n0 n1 n2 n3 : Nat} {g0 g1 g2 g3 : List SC → Prop} (ht : P.underlying t = some (.struct #[f0, f1, f2, f3])) (hc : P.cellsOf t = n0 + (n1 + (n2 + n3))) (o0 : f0.offset = 0) (o1 : f1.offset = n0) (o2 : f2.offset = n0 + n1) (o3 : f3.offset = n0 + (n1 + n2)) (h0 : Rdg P f0.type n0 g0) (h1 : Rdg P f1.type n1 g1) (h2 : Rdg P f2.type n2 g2) (h3 : Rdg P f3.type n3 g3) :
    Rdg P t (n0 + (n1 + (n2 + n3))) (fun xs => ∃ a b c d, xs = a ++ (b ++ (c ++ d)) ∧ g0 a ∧ g1 b ∧ g2 c ∧ g3 d) := by
  refine ⟨hc, fun enc W sp hd fuel cs x h => ?_⟩
  obtain ⟨xs, n, _, _, hl, hlen, hg⟩ := DataW.trod_struct ht h
  match xs, hlen with
  | [y0, y1, y2, y3], _ =>
    obtain ⟨a, l0, r0, k0⟩ := h0.2 enc W sp hd n _ _ (hg 0 f0 rfl)
    obtain ⟨b, l1, r1, k1⟩ := h1.2 enc W sp hd n _ _ (hg 1 f1 rfl)
    obtain ⟨c, l2, r2, k2⟩ := h2.2 enc W sp hd n _ _ (hg 2 f2 rfl)
    obtain ⟨d, l3, r3, k3⟩ := h3.2 enc W sp hd n _ _ (hg 3 f3 rfl)
    rw [o0, h0.1, List.drop_zero] at r0
    rw [o1, h1.1] at r1
    rw [o2, h2.1] at r2
    rw [o3, h3.1] at r3
    refine ⟨a ++ (b ++ (c ++ d)), by rw [hl, hc], ?_, a, b, c, d, rfl, k0, k1, k2, k3⟩
    have := r0.append (r1.append (r2.append r3))
    rw [List.take_of_length_le (l := cs.drop (n0 + (n1 + n2))) (by rw [List.length_drop]; omega)] at this
    simpa only [← Nat.add_assoc, ← List.drop_drop, List.take_append_drop] using this
/-! at an argument -/
theorem arg_struct {H : Type} {enc : TypeId × Value → H} {P : Program} {n : Nat} {t : TypeId} {good : List SC → Prop} {fs : Array Field} {r : Reach} {W : World} {sp : Nat → Bool} {hd : Bool} {b : Nat} {v : Value} {dd : DataW H} {p : List MemPlace}
    (h : Rdg P t n good) (ht : P.underlying t = some (.struct fs)) (hv : Value.okWide P W r b t v) (hx : DataW.Trod enc P W 0 sp hd t v dd p) : ∃ (cs : List Value) (xs : List SC), v = .agg cs.toArray ∧ All2 (SCRep W (inW W)) cs xs ∧ good xs := by
  obtain ⟨cs, rfl, _⟩ := okWide_struct ht hv
  obtain ⟨fuel, hf⟩ := hx
  obtain ⟨xs, _, ha, hg⟩ := h.2 enc W sp hd fuel _ _ hf
  exact ⟨cs.toList, xs, by simp, ha, hg⟩
theorem arg_slice {H : Type} {enc : TypeId × Value → H} {P : Program} {t e : TypeId} {good : List SC → Prop} {r : Reach} {W : World} {sp : Nat → Bool} {hd : Bool} {b : Nat} {v : Value} {dd : DataW H} {p : List MemPlace}
    (h : Rdg P t 1 good) (ht : P.underlying t = some (.slice e)) (hv : Value.okWide P W r b t v) (hx : DataW.Trod enc P W 0 sp hd t v dd p) : ∃ x : SC, SCRep W (inW W) v x ∧ good [x] := by
  obtain ⟨A, n, c, rfl⟩ := okWide_slice ht hv
  obtain ⟨fuel, hf⟩ := hx
  obtain ⟨xs, _, ha, hg⟩ := h.2 enc W sp hd fuel _ _ hf
  have ha : All2 (SCRep W (inW W)) [Value.slice A n c] xs := ha
  cases ha with
  | cons h1 t1 => cases t1; exact ⟨_, h1, hg⟩
end Vx
