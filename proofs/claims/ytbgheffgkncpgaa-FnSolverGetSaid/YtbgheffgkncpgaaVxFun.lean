/- A function: what the executor finds of it is what a call of it does. Conditions: those that each theorem states. -/
import Derived.Test.YtbgheffgkncpgaaVxCodeOk
set_option linter.unusedVariables false
set_option linter.unusedSimpArgs false
namespace Vx
open Go Go.RowKit

structure FnOk (P : Program) (fi : FnI) : Prop where
  ex : ∃ fn, P.funcs[fi.f]? = some fn ∧ fn.body = some fi.body ∧ fn.ntmps = fi.nt ∧ fn.results.toList = fi.res ∧ (fn.name == "runtime.NumGoroutine") = false
theorem scCells_map (fr : Bool) (xs : List SC) : scCells fr xs = xs.map (scCell fr) := by
  induction xs with
  | nil => rfl
  | cons x xs ih => simp [scCells, ih]

/-! ### The start -/
def g0 (A : Nat → Prop) (bs : List Nat) : Gm := { rv := fun _ => undef, wd := fun _ => 0, ln := fun _ => 0, bb := fun j => bs.getD j 0, G := A, dr := fun _ => False, db := fun j => j < bs.length }
structure Init (A : Nat → Prop) (bs : List Nat) (vals : List Value) (w : World) (σ : St) (b : Nat) : Prop where
  tmp : ∀ k x, get σ (.t k) = .av x → AVRep (g0 A bs) w.heap.size w (vals.getD k undef) x
  row : ∀ i, get σ (.r i) = .no
  box : ∀ k cs, get σ (.b k) = .box cs → k < b ∧ ∃ n us ty, bs[k]? = some n ∧ w.heap[n]? = some (.cells us.toArray ty (0, 0)) ∧ All2 (CellRep (g0 A bs) w.heap.size w) us cs ∧ ¬ A n
  dbx : ∀ k, k < b → get σ (.b k) ≠ .no
theorem sc_cell0 {A : Nat → Prop} {bs : List Nat} {w : World} {u : Value} {x : SC} (h : SCRep w A u x) : CellRep (g0 A bs) w.heap.size w u (scCell false x) := by
  cases x with
  | sc v => exact h
  | row d => exact RowRep.chg (Chg.refl (fun _ => False) w) (fun _ _ h => h) (fun j hj => ⟨hj, fun e => by cases e⟩) h
theorem sc_cells0 {A : Nat → Prop} {bs : List Nat} {w : World} {us : List Value} {xs : List SC} (h : All2 (SCRep w A) us xs) : All2 (CellRep (g0 A bs) w.heap.size w) us (scCells false xs) := by
  rw [scCells_map]
  exact All2.map_right (h.imp fun _ _ h' => sc_cell0 h')
theorem Init.slot {A : Nat → Prop} {bs : List Nat} {vals : List Value} {w : World} {σ : St} {b : Nat} (h : Init A bs vals w σ b) {t : Nat} {u : Value} {us : List Value} (hv : vals.drop t = u :: us) {x : AV} (hx : AVRep (g0 A bs) w.heap.size w u x) : Init A bs vals w ((.t t, .av x) :: σ) b := by
  refine ⟨fun k y hk => ?_, fun i => by rw [get_other (by simp)]; exact h.row i, fun k cs hk => h.box k cs (by rw [get_other (by simp)] at hk; exact hk), fun k hk => by rw [get_other (by simp)]; exact h.dbx k hk⟩
  by_cases e : k = t
  · subst e
    rw [get_same] at hk
    cases hk
    have : vals.getD k undef = u := by
      have h1 : (vals.drop k)[0]? = some u := by rw [hv]; rfl
      rw [List.getElem?_drop] at h1
      simp at h1
      simp [List.getD_eq_getElem?_getD, h1]
    rw [this]; exact hx
  · rw [get_other (Loc.t_ne e)] at hk
    exact h.tmp k y hk
theorem drop_succ_of {α : Type} {l : List α} {t : Nat} {u : α} {us : List α} (h : l.drop t = u :: us) : l.drop (t + 1) = us := by
  rw [← List.drop_drop, h]; rfl
theorem argSt_ok {A : Nat → Prop} {bs : List Nat} {vals : List Value} {w : World} {us : List Value} {ds : List DA} {cs : List Nat} (h : ArgsRep w A us ds cs) :
    ∀ (σ : St) (t b : Nat), vals.drop t = us → bs.drop b = cs → b ≤ bs.length → Init A bs vals w σ b → Init A bs vals w (argSt ds t b σ) bs.length := by
  induction h with
  | nil =>
    intro σ t b _ hb hbl hi
    have : bs.length ≤ b := by simpa using hb
    have e : b = bs.length := by omega
    rw [e] at hi; exact hi
  | c hx _ ih =>
    intro σ t b hv hb hbl hi
    exact ih _ (t + 1) b (drop_succ_of hv) hb hbl (hi.slot hv (sc_cell0 hx))
  | agg hx _ ih =>
    intro σ t b hv hb hbl hi
    exact ih _ (t + 1) b (drop_succ_of hv) hb hbl (hi.slot hv ⟨_, rfl, sc_cells0 hx⟩)
  | bx h0 hx hA _ ih =>
    rename_i n ty vs xs us ds bs' _
    intro σ t b hv hb hbl hi
    have hbn : bs[b]? = some n := by
      have h1 : (bs.drop b)[0]? = some n := by rw [hb]; rfl
      rw [List.getElem?_drop] at h1
      simpa using h1
    have hlt := (List.getElem?_eq_some_iff.1 hbn).1
    refine ih _ (t + 1) (b + 1) (drop_succ_of hv) (drop_succ_of hb) hlt (Init.slot (u := .pointer (some ⟨n, 0, none⟩)) ⟨fun k y hk => hi.tmp k y (by rw [get_other (by simp)] at hk; exact hk), fun i => by rw [get_other (by simp)]; exact hi.row i, fun k cs hk => ?_, fun k hk => ?_⟩ hv ⟨hlt, ?_⟩)
    · by_cases e : k = b
      · subst e
        rw [get_same] at hk
        cases hk
        exact ⟨Nat.lt_succ_self _, n, vs, ty, hbn, h0, sc_cells0 hx, hA⟩
      · rw [get_other (Loc.b_ne e)] at hk
        obtain ⟨h1, h2⟩ := hi.box k cs hk
        exact ⟨Nat.lt_succ_of_lt h1, h2⟩
    · by_cases e : k = b
      · subst e; rw [get_same]; simp
      · rw [get_other (Loc.b_ne e)]; exact hi.dbx k (by omega)
    · show Value.pointer _ = Value.pointer (some ⟨bs.getD b 0, 0, none⟩)
      rw [List.getD_eq_getElem?_getD, hbn]; rfl
theorem ArgsRep.len {w : World} {A : Nat → Prop} {us : List Value} {ds : List DA} {cs : List Nat} (h : ArgsRep w A us ds cs) : us.length = ds.length ∧ cs.length = nBx ds := by
  induction h with
  | nil => exact ⟨rfl, rfl⟩
  | c _ _ ih => exact ⟨by simp [ih.1], ih.2⟩
  | agg _ _ ih => exact ⟨by simp [ih.1], ih.2⟩
  | bx _ _ _ _ ih => exact ⟨by simp [ih.1], by simp [nBx, ih.2]⟩
theorem start_ok {A : Nat → Prop} {bs : List Nat} {vals : List Value} {w : World} {ds : List DA} {ek : List (TypeId × RK)} {nt : Nat} (h : ArgsRep w A vals ds bs) (hnd : bs.Nodup) (hA : ∀ j, A j → j < w.heap.size) (hn : ds.length ≤ nt) :
    Sat ⟨ek, w.heap.size, bs, w, nt, A⟩ (argSt ds 0 0 []) { tmps := vals.toArray ++ Array.replicate (nt - vals.toArray.size) undef, defers := [] } w (g0 A bs) := by
  have hi := argSt_ok (bs := bs) (vals := vals) h [] 0 0 rfl rfl (Nat.zero_le _) ⟨fun k x hk => (by cases hk), fun i => rfl, fun k cs hk => (by cases hk), fun k hk => by omega⟩
  have hl := h.len.1
  have hbb : ∀ {k n : Nat}, bs[k]? = some n → (g0 A bs).bb k = n := fun {k n} hk => by show bs.getD k 0 = n; rw [List.getD_eq_getElem?_getD, hk]; rfl
  refine ⟨Chg.refl _ _, rfl, rfl, by simp; omega, fun t x hx => ?_, fun i own fr d hd => (by rw [hi.row] at hd; cases hd), fun b cs hb => ?_, fun i hd => hd.elim, fun i hd => hi.dbx i hd, hA,
    fun i j fr d fr' d' b _ hd => (by rw [hi.row] at hd; cases hd), fun b c cs cs' hbc hb hc => ?_, fun i b fr d cs hd => (by rw [hi.row] at hd; cases hd), fun j n hj => ⟨(List.getElem?_eq_some_iff.1 hj).1, hbb hj⟩, fun j hj => .inl hj⟩
  · have e : (vals.toArray ++ Array.replicate (nt - vals.toArray.size) undef).getD t undef = vals.getD t undef := by
      rw [Array.getD_eq_getD_getElem?, List.getD_eq_getElem?_getD, Array.getElem?_append]
      by_cases ht : t < vals.length
      · simp [ht]
      · simp only [List.size_toArray, ht, if_false]
        rw [List.getElem?_eq_none (by omega : vals.length ≤ t)]
        by_cases h2 : t - vals.length < nt - vals.length
        · simp [Array.getElem?_replicate, h2]
        · simp [Array.getElem?_replicate, h2]
    rw [e]
    exact hi.tmp t x hx
  · obtain ⟨hk, n, us, ty, h1, h2, h3, h4⟩ := hi.box b cs hb
    refine ⟨hk, us, ty, by rw [hbb h1]; exact h2, h3, by rw [hbb h1]; exact h4, .inr ?_⟩
    rw [hbb h1]
    exact List.mem_of_getElem? h1
  · obtain ⟨_, n, _, _, h1, _⟩ := hi.box b cs hb
    obtain ⟨_, m, _, _, h2, _⟩ := hi.box c cs' hc
    rw [hbb h1, hbb h2]
    intro e
    subst e
    exact hbc ((List.getElem?_inj (List.getElem?_eq_some_iff.1 h1).1 hnd).1 (h1.trans h2.symm))

/-! ### The end -/
section
variable {P : Program} {cx : Cx} {F : Fr} {σ : St} {a : Act} {w : World} {g : Gm}
theorem row_out (h : Sat F σ a w g) {i : Nat} {own fr : Bool} {d : Row} (hi : get σ (.r i) = .row own fr d) {R : Nat → Prop} (h1 : ∀ j, g.G j → (fr = true → F.base ≤ j) → R j) (h2 : own = true → ∀ b, (g.rv i).ownBlock = some b → R b) : RowRep w R (g.rv i) d := by
  obtain ⟨_, _, h3⟩ := h.row i own fr d hi
  cases own with
  | true => obtain ⟨⟨e, _, ho⟩, _⟩ := h3; exact ho.row (fun j hj => h1 j hj.1 hj.2) fun j hj => h2 rfl j hj
  | false => exact RowRep.chg (Chg.refl (fun _ => False) w) (fun _ _ h => h) (fun j hj => h1 j hj.1 hj.2) h3
def mdFr : Md → Bool
  | .fresh => true
  | _ => false
def isMix : Md → Bool
  | .mix _ => true
  | _ => false
structure OutOk (F : Fr) (σ : St) (g : Gm) (m : Md) (R : Nat → Prop) : Prop where
  hg : ∀ j, g.G j → (mdFr m = true → F.base ≤ j) → R j
  hr : isMix m = false → ∀ i fr d b, get σ (.r i) = .row true fr d → (mdFr m = true → fr = true) → (g.rv i).ownBlock = some b → R b
theorem outC_ok (h : Sat F σ a w g) {m : Md} {R : Nat → Prop} (hR : OutOk F σ g m R) {c : Cell} {u : Value} (hu : CellRep g F.base w u c) {x : SC} (hr : (outC m c).run (get σ) = some x) : SCRep w R u x := by
  cases m with
  | mix os =>
    cases c with
    | sc v => have := run_ret hr; subst this; exact hu
    | ro fr d =>
      have := run_ret hr; subst this
      exact RowRep.chg (Chg.refl (fun _ => False) w) (fun _ _ h => h) (fun j hj => hR.hg j hj.1 fun e => by cases e) hu
    | ref i => cases hr
  | fresh =>
    cases c with
    | sc v => have := run_ret hr; subst this; exact hu
    | ro fr d =>
      cases fr with
      | false => cases hr
      | true =>
        have := run_ret hr; subst this
        exact RowRep.chg (Chg.refl (fun _ => False) w) (fun _ _ h => h) (fun j hj => hR.hg j hj.1 fun _ => hj.2 rfl) hu
    | ref i =>
      have hr' := run_ask hr
      split at hr'
      · rename_i own d hd
        have := run_ret hr'; subst this
        obtain ⟨_, rfl⟩ := hu
        exact row_out h hd (fun j hj hb => hR.hg j hj fun _ => hb rfl) fun ho b hb => by subst ho; exact hR.hr rfl i _ _ b hd (fun _ => rfl) hb
      · cases hr'
  | alias =>
    cases c with
    | sc v => have := run_ret hr; subst this; exact hu
    | ro fr d =>
      have := run_ret hr; subst this
      exact RowRep.chg (Chg.refl (fun _ => False) w) (fun _ _ h => h) (fun j hj => hR.hg j hj.1 fun e => by cases e) hu
    | ref i =>
      have hr' := run_ask hr
      split at hr'
      · rename_i own fr d hd
        have := run_ret hr'; subst this
        obtain ⟨_, rfl⟩ := hu
        exact row_out h hd (fun j hj hb => hR.hg j hj fun e => by cases e) fun ho b hb => by subst ho; exact hR.hr rfl i _ _ b hd (fun e => by cases e) hb
      · cases hr'
  | take =>
    cases c with
    | sc v => have := run_ret hr; subst this; exact hu
    | ro fr d => cases fr <;> cases hr
    | ref i => cases hr
  | write =>
    cases c with
    | sc v => have := run_ret hr; subst this; exact hu
    | ro fr d => cases fr <;> cases hr
    | ref i => cases hr
theorem outCs_ok (h : Sat F σ a w g) {m : Md} {R : Nat → Prop} (hR : OutOk F σ g m R) : ∀ {cs : List Cell} {us : List Value} (_ : All2 (CellRep g F.base w) us cs) {xs : List SC} (_ : (outCs m cs).run (get σ) = some xs), All2 (SCRep w R) us xs
  | [], _, .nil, xs, hr => by have := run_ret hr; subst this; exact .nil
  | c :: cs, _, .cons hu ht, xs, hr => by
    obtain ⟨x, h1, hr⟩ := run_bind_some hr
    obtain ⟨ys, h2, hr⟩ := run_bind_some hr
    have := run_ret hr; subst this
    exact .cons (outC_ok h hR hu h1) (outCs_ok h hR ht h2)
theorem outV1_ok (h : Sat F σ a w g) {m : Md} {R : Nat → Prop} (hR : OutOk F σ g m R) {c : V1} {u : Value} (hu : V1Rep g F.base w u c) {x : DA} (hr : (outV1 m c).run (get σ) = some x) : DARep w R u x := by
  cases c with
  | cell c =>
    obtain ⟨x, h1, hr⟩ := run_bind_some hr
    have := run_ret hr; subst this
    exact outC_ok h hR hu h1
  | agg cs =>
    obtain ⟨x, h1, hr⟩ := run_bind_some hr
    have := run_ret hr; subst this
    obtain ⟨us, rfl, hall⟩ := hu
    exact ⟨us, rfl, outCs_ok h hR hall h1⟩
theorem outV1s_ok (h : Sat F σ a w g) {m : Md} {R : Nat → Prop} (hR : OutOk F σ g m R) : ∀ {cs : List V1} {us : List Value} (_ : All2 (V1Rep g F.base w) us cs) {xs : List DA} (_ : (outV1s m cs).run (get σ) = some xs), All2 (DARep w R) us xs
  | [], _, .nil, xs, hr => by have := run_ret hr; subst this; exact .nil
  | c :: cs, _, .cons hu ht, xs, hr => by
    obtain ⟨x, h1, hr⟩ := run_bind_some hr
    obtain ⟨ys, h2, hr⟩ := run_bind_some hr
    have := run_ret hr; subst this
    exact .cons (outV1_ok h hR hu h1) (outV1s_ok h hR ht h2)
/-! result variables -/
def resF (tmps : Array Value) : ResultVar → Sem Value
  | .tmp t => pure (tmps.getD t undef)
  | .cell a t => do loadVar t (← asAddr (tmps.getD a undef))
theorem run_asAddr {t : TypeId} {u v : Value} {w w' : World} (h : (Instr.loadAt t u).run P w = .ok v w') : (do loadVar t (← asAddr u) : Sem Value).run P w = .ok v w' := by
  cases u with
  | pointer p =>
    cases p with
    | some ad => exact h
    | none => simp [Instr.loadAt, Instr.sureAddr] at h
  | _ => simp [Instr.loadAt, Instr.sureAddr] at h
theorem resVar_ok (htab : TabOk P cx) (h : Sat F σ a w g) {r : ResultVar} {x : AV} (hr : (resVar cx r).run (get σ) = some x) : ∃ v, (resF a.tmps r).run P w = .ok v w ∧ AVRep g F.base w v x := by
  cases r with
  | tmp t => exact ⟨_, rfl, avOf_ok h hr⟩
  | cell b ty =>
    obtain ⟨ti, h1, hr⟩ := run_bind_some hr
    obtain ⟨p, h2, hr⟩ := run_bind_some hr
    obtain ⟨v, h3, h4⟩ := load_ok h (htab.ti _ _ (run_tio h1)) (avOf_ok h h2) hr
    exact ⟨v, run_asAddr h3, h4⟩
theorem resVars_ok (htab : TabOk P cx) (h : Sat F σ a w g) : ∀ (rs : List ResultVar) (xs : List V1), (resVars cx rs).run (get σ) = some xs → ∃ vs, (rs.mapM (resF a.tmps) : Sem (List Value)).run P w = .ok vs w ∧ All2 (V1Rep g F.base w) vs xs
  | [], xs, hr => by have := run_ret hr; subst this; exact ⟨[], rfl, .nil⟩
  | r :: rs, xs, hr => by
    obtain ⟨x, h1, hr⟩ := run_bind_some hr
    obtain ⟨v, h2, h3⟩ := resVar_ok htab h h1
    split at hr
    · rename_i u
      obtain ⟨ys, h4, hr⟩ := run_bind_some hr
      have := run_ret hr; subst this
      obtain ⟨vs, h5, h6⟩ := resVars_ok htab h rs ys h4
      exact ⟨v :: vs, by simp [List.mapM_cons, h2, h5], .cons h3 h6⟩
    · cases hr
theorem run_results {fn : Func} {tmps : Array Value} {vs : List Value} (h : (fn.results.toList.mapM (resF tmps) : Sem (List Value)).run P w = .ok vs w) : (results fn tmps).run P w = .ok (tupV vs) w := by
  have e : results fn tmps = (fn.results.mapM (resF tmps) >>= fun vs => pure (if h : vs.size = 1 then vs[0] else .tuple vs)) := by
    unfold results
    congr 1
    try congr 1
    try (funext x; cases x <;> rfl)
  rw [e, Array.mapM_eq_mapM_toList]
  simp only [Sem.run_bind, Sem.run_map, h]
  cases vs with
  | nil => rfl
  | cons v vs => cases vs with
    | nil => rfl
    | cons u vs => rfl
/-! what is handed back -/
theorem outBxs_ok (h : Sat F σ a w g) {m : Md} {R : Nat → Prop} (hR : OutOk F σ g (boxMd m) R) : ∀ (n b : Nat) (xs : List (List SC)), (outBxs m n b).run (get σ) = some xs → ∀ bs : List Nat, bs.length = n → (∀ k m, bs[k]? = some m → g.bb (b + k) = m) → All2 (BxRep w R) bs xs ∧ ∀ m ∈ bs, ∃ k cs, g.bb k = m ∧ get σ (.b k) = .box cs ∧ k < b + n
  | 0, b, xs, hr, bs, hl, hb => by
    have := run_ret hr; subst this
    cases bs with
    | nil => exact ⟨.nil, fun m hm => (by cases hm)⟩
    | cons _ _ => cases hl
  | n + 1, b, xs, hr, bs, hl, hb => by
    obtain ⟨x, h1, hr⟩ := run_bind_some hr
    obtain ⟨ys, h2, hr⟩ := run_bind_some hr
    have := run_ret hr; subst this
    cases bs with
    | nil => cases hl
    | cons m bs =>
      obtain ⟨e1, e2⟩ := outBxs_ok h hR n (b + 1) ys h2 bs (by simpa using hl) fun k m' hk => by rw [← hb (k + 1) m' (by simpa using hk)]; congr 1; omega
      have hm : g.bb b = m := by have := hb 0 m rfl; simpa using this
      have h1' := run_ask h1
      split at h1'
      · rename_i cs hcs
        obtain ⟨_, us, ty, h3, h4, _⟩ := h.box b cs hcs
        refine ⟨.cons ⟨us, ty, by rw [← hm]; exact h3, outCs_ok h hR h4 h1'⟩ e1, fun m' hm' => ?_⟩
        rcases List.mem_cons.1 hm' with rfl | hm'
        · exact ⟨b, cs, hm, hcs, by omega⟩
        · obtain ⟨k, cs, q1, q2, q3⟩ := e2 m' hm'
          exact ⟨k, cs, q1, q2, by omega⟩
      · cases h1'
/-- What is given away. -/
def ownBs (g : Gm) (l : List Nat) : List Nat := l.flatMap fun i => (g.rv i).ownBlock.toList
theorem outMs_ok (h : Sat F σ a w g) {ek : List (TypeId × RK)} (hek : F.ek = ek) {A G' : Nat → Prop} {O : List Nat} (hG : ∀ j, g.G j → F.base ≤ j → G' j) (hGA : ∀ j, g.G j → A j ∨ G' j) (hO : ∀ i fr d b, i ∉ O → get σ (.r i) = .row true fr d → (g.rv i).ownBlock = some b → G' b) :
    ∀ {cs : List Cell} {us : List Value} (_ : All2 (CellRep g F.base w) us cs) {os : List RF} {p : List SC × Mx} (_ : (outMs cs os).run (get σ) = some p), (∀ i ∈ p.2.reads, i ∉ O) → SMix ek w A G' us p.1 os p.2.os (ownBs g p.2.owns) ∧ ∀ i ∈ p.2.owns, ∃ d, get σ (.r i) = .row true true d
  | [], _, .nil, os, p, hr, _ => by
    have := run_ret hr; subst this
    exact ⟨.nil, fun i hi => (by cases hi)⟩
  | .sc v :: cs, _, .cons hu ht, os, p, hr, hrd => by
    obtain ⟨q, hq, hr⟩ := run_bind_some hr
    have := run_ret hr; subst this
    obtain ⟨e1, e2⟩ := outMs_ok h hek hG hGA hO ht hq hrd
    cases hu
    exact ⟨.sc e1, e2⟩
  | .ro fr d :: cs, _, .cons hu ht, os, p, hr, hrd => by
    cases os with
    | nil => cases fr <;> cases hr
    | cons o os => cases o with
      | own => cases fr <;> cases hr
      | new => cases fr with
        | false => cases hr
        | true =>
          obtain ⟨q, hq, hr⟩ := run_bind_some hr
          have := run_ret hr; subst this
          obtain ⟨e1, e2⟩ := outMs_ok h hek hG hGA hO ht hq hrd
          exact ⟨.ro (RowRep.chg (Chg.refl (fun _ => False) w) (fun _ _ h => h) (fun j hj => hG j hj.1 (hj.2 rfl)) hu) e1, e2⟩
      | any =>
        have hr : ((outMs cs os).bind fun p => .ret (.row d :: p.1, p.2)).run (get σ) = some p := by cases fr <;> exact hr
        obtain ⟨q, hq, hr⟩ := run_bind_some hr
        have := run_ret hr; subst this
        obtain ⟨e1, e2⟩ := outMs_ok h hek hG hGA hO ht hq hrd
        exact ⟨.any (RowRep.chg (Chg.refl (fun _ => False) w) (fun _ _ h => h) (fun j hj => hGA j hj.1) hu) e1, e2⟩
  | .ref i :: cs, _, .cons hu ht, os, p, hr, hrd => by
    cases os with
    | nil => cases hr
    | cons o os => cases o with
      | new =>
        have hr' := run_ask hr
        split at hr'
        · rename_i own d hd
          obtain ⟨q, hq, hr⟩ := run_bind_some hr'
          have := run_ret hr; subst this
          obtain ⟨e1, e2⟩ := outMs_ok h hek hG hGA hO ht hq fun i hi => hrd i (List.mem_cons_of_mem _ hi)
          obtain ⟨_, rfl⟩ := hu
          exact ⟨.ro (row_out h hd (fun j hj hb => hG j hj (hb rfl)) fun ho b hb => by subst ho; exact hO i _ _ b (hrd i List.mem_cons_self) hd hb) e1, e2⟩
        · cases hr'
      | any =>
        have hr' := run_ask hr
        split at hr'
        · rename_i own fr d hd
          obtain ⟨q, hq, hr⟩ := run_bind_some hr'
          have := run_ret hr; subst this
          obtain ⟨e1, e2⟩ := outMs_ok h hek hG hGA hO ht hq fun i hi => hrd i (List.mem_cons_of_mem _ hi)
          obtain ⟨_, rfl⟩ := hu
          exact ⟨.any (row_out h hd (fun j hj _ => hGA j hj) fun ho b hb => by subst ho; exact .inr (hO i _ _ b (hrd i List.mem_cons_self) hd hb)) e1, e2⟩
        · cases hr'
      | own =>
        have hr' := run_ask hr
        split at hr'
        · rename_i d hd
          obtain ⟨q, hq, hr⟩ := run_bind_some hr'
          have := run_ret hr; subst this
          obtain ⟨e1, e2⟩ := outMs_ok h hek hG hGA hO ht hq hrd
          obtain ⟨_, rfl⟩ := hu
          obtain ⟨_, _, ⟨e, he, hown⟩, _⟩ := h.row i _ _ _ hd
          refine ⟨.own (by rw [← hek]; exact he) (hown.chg (Chg.refl (fun _ => False) w) (fun _ _ h => h) (fun j hj => hG j hj.1 (hj.2 rfl)) fun _ _ h => h) e1, fun i' hi' => ?_⟩
          rcases List.mem_cons.1 hi' with rfl | hi'
          · exact ⟨d, hd⟩
          · exact e2 i' hi'
        · cases hr'
theorem outMV_ok (h : Sat F σ a w g) {ek : List (TypeId × RK)} (hek : F.ek = ek) {A G' : Nat → Prop} {O : List Nat} (hG : ∀ j, g.G j → F.base ≤ j → G' j) (hGA : ∀ j, g.G j → A j ∨ G' j) (hO : ∀ i fr d b, i ∉ O → get σ (.r i) = .row true fr d → (g.rv i).ownBlock = some b → G' b) :
    ∀ {cs : List V1} {us : List Value} (_ : All2 (V1Rep g F.base w) us cs) {os : List RF} {p : List DA × Mx} (_ : (outMV cs os).run (get σ) = some p), (∀ i ∈ p.2.reads, i ∉ O) → DMix ek w A G' us p.1 os (ownBs g p.2.owns) ∧ ∀ i ∈ p.2.owns, ∃ d, get σ (.r i) = .row true true d
  | [], _, .nil, os, p, hr, _ => by
    have := run_ret hr; subst this
    exact ⟨.nil, fun i hi => (by cases hi)⟩
  | .cell c :: cs, _, .cons hu ht, os, p, hr, hrd => by
    obtain ⟨q, hq, hr⟩ := run_bind_some hr
    split at hr
    · rename_i x hx
      obtain ⟨q2, hq2, hr⟩ := run_bind_some hr
      have := run_ret hr; subst this
      obtain ⟨e1, e2⟩ := outMs_ok h hek hG hGA hO (.cons hu .nil) hq fun i hi => hrd i (List.mem_append_left _ hi)
      obtain ⟨e3, e4⟩ := outMV_ok h hek hG hGA hO ht hq2 fun i hi => hrd i (List.mem_append_right _ hi)
      rw [hx] at e1
      have e5 := DMix.c e1 e3
      refine ⟨?_, fun i hi => (List.mem_append.1 hi).elim (e2 i) (e4 i)⟩
      simp only [ownBs, List.flatMap_append]
      exact e5
    · cases hr
  | .agg xs :: cs, _, .cons hu ht, os, p, hr, hrd => by
    obtain ⟨q, hq, hr⟩ := run_bind_some hr
    obtain ⟨q2, hq2, hr⟩ := run_bind_some hr
    have := run_ret hr; subst this
    obtain ⟨us0, rfl, hall⟩ := hu
    obtain ⟨e1, e2⟩ := outMs_ok h hek hG hGA hO hall hq fun i hi => hrd i (List.mem_append_left _ hi)
    obtain ⟨e3, e4⟩ := outMV_ok h hek hG hGA hO ht hq2 fun i hi => hrd i (List.mem_append_right _ hi)
    have e5 := DMix.agg e1 e3
    refine ⟨?_, fun i hi => (List.mem_append.1 hi).elim (e2 i) (e4 i)⟩
    simp only [ownBs, List.flatMap_append]
    exact e5
theorem ownBs_nodup (h : Sat F σ a w g) : ∀ (l : List Nat), l.Nodup → (∀ i ∈ l, ∃ d, get σ (.r i) = .row true true d) → (ownBs g l).Nodup ∧ ∀ b, b ∈ ownBs g l → ∃ i ∈ l, (g.rv i).ownBlock = some b
  | [], _, _ => ⟨by simp [ownBs], fun b hb => by simp [ownBs] at hb⟩
  | i :: l, hn, hd => by
    obtain ⟨e1, e2⟩ := ownBs_nodup h l (List.nodup_cons.1 hn).2 fun j hj => hd j (List.mem_cons_of_mem _ hj)
    have hin : ∀ b, b ∈ (g.rv i).ownBlock.toList → (g.rv i).ownBlock = some b := fun b hb => by simpa using hb
    refine ⟨?_, fun b hb => ?_⟩
    · show ((g.rv i).ownBlock.toList ++ ownBs g l).Nodup
      rw [List.nodup_append]
      refine ⟨by cases (g.rv i).ownBlock <;> simp, e1, fun b hb c hc e => ?_⟩
      subst e
      obtain ⟨j, hj, hjb⟩ := e2 b hc
      obtain ⟨d, hd1⟩ := hd i List.mem_cons_self
      obtain ⟨d', hd2⟩ := hd j (List.mem_cons_of_mem _ hj)
      exact h.sepR i j _ _ _ _ b (fun e => (List.nodup_cons.1 hn).1 (e ▸ hj)) hd1 hd2 (hin b hb) hjb
    · have hb : b ∈ (g.rv i).ownBlock.toList ++ ownBs g l := hb
      rcases List.mem_append.1 hb with hb | hb
      · exact ⟨i, List.mem_cons_self, hin b hb⟩
      · obtain ⟨j, hj, hjb⟩ := e2 b hb
        exact ⟨j, List.mem_cons_of_mem _ hj, hjb⟩
theorem nodupB_nodup : ∀ (l : List Nat), nodupB l = true → l.Nodup
  | [], _ => .nil
  | n :: l, h => by
    simp only [nodupB, Bool.and_eq_true, Bool.not_eq_true', List.any_eq_false] at h
    exact List.nodup_cons.2 ⟨fun hm => h.1 n hm (Nat.beq_refl n), nodupB_nodup l h.2⟩
theorem fin_ok (htab : TabOk P cx) (h : Sat F σ a w g) (hek : F.ek = cx.ek) {fi : FnI} {fn : Func} (hres : fn.results.toList = fi.res) (hnb : F.pb.length = fi.nb) (hAlt : ∀ j, F.A j → j < F.base) {r : List DA × List (List SC)} (hr : (finR cx fi).run (get σ) = some r) :
    ∃ v, (results fn a.tmps).run P w = .ok v w ∧ Post cx.ek F.w0 F.A F.pb ⟨true, r.1, r.2, fi.mode⟩ (.returned v) w := by
  obtain ⟨res, h1, hr⟩ := run_bind_some hr
  obtain ⟨outs, h2, hr⟩ := run_bind_some hr
  have := run_ret hr; subst this
  have hbase := h.base
  -- the boxes that were lent are there
  have hboxes : ∀ m ∈ F.pb, ∃ k cs, g.bb k = m ∧ get σ (.b k) = .box cs ∧ k < 0 + fi.nb := (outBxs_ok h (R := fun _ => True) ⟨fun _ _ _ => trivial, fun _ _ _ _ _ _ _ _ => trivial⟩ _ _ _ h2 F.pb hnb fun k m hk => by rw [Nat.zero_add]; exact (h.pb k m hk).2).2
  have hMg : ∀ j, F.M j → ¬ g.G j := fun j hj hg => by
    obtain ⟨k, cs, hk, hcs, _⟩ := hboxes j hj
    obtain ⟨_, _, _, _, _, h4, _⟩ := h.box k cs hcs
    exact h4 (hk ▸ hg)
  have hMr : ∀ i fr d b, get σ (.r i) = .row true fr d → (g.rv i).ownBlock = some b → F.base ≤ b := fun i fr d b hi hb => by
    obtain ⟨_, _, _, h3⟩ := h.row i _ _ _ hi
    rcases (h3 b hb).2.1 with hb' | hb'
    · exact hb'
    · obtain ⟨k, cs, hk, hcs, _⟩ := hboxes b hb'
      exact absurd (hb.trans (congrArg some hk.symm)) (h.sepRB i k fr d cs hi hcs)
  -- new blocks without one that is given
  have key : ∀ (X : Nat → Prop), (∀ j, X j → ¬ g.G j) → (∀ i fr d b, get σ (.r i) = .row true fr d → (g.rv i).ownBlock = some b → ¬ X b) → ∀ G' : Nat → Prop, G' = (fun j => (F.base ≤ j ∧ j < w.heap.size) ∧ ¬ X j) →
      OutOk F σ g .alias (fun j => F.A j ∨ G' j) ∧ OutOk F σ g .fresh G' ∧ (∀ j, G' j → F.w0.heap.size ≤ j ∧ j < w.heap.size) := fun X hX1 hX2 G' hG' => by
    subst hG'
    refine ⟨⟨fun j hj _ => ?_, fun _ i fr d b hi _ hb => .inr ⟨⟨hMr i fr d b hi hb, h.own_lt hi hb⟩, hX2 i fr d b hi hb⟩⟩, ⟨fun j hj hb => ⟨⟨hb rfl, h.gb j hj⟩, fun hx => hX1 j hx hj⟩, fun _ i fr d b hi _ hb => ⟨⟨hMr i fr d b hi hb, h.own_lt hi hb⟩, hX2 i fr d b hi hb⟩⟩, fun j hj => ⟨by rw [← hbase]; exact hj.1.1, hj.1.2⟩⟩
    rcases h.ga j hj with hA | hM | hb
    · exact .inl hA
    · exact absurd hj (hMg j hM)
    · exact .inr ⟨⟨hb, h.gb j hj⟩, fun hx => hX1 j hx hj⟩
  have houts : ∀ {R : Nat → Prop}, OutOk F σ g (boxMd fi.mode) R → All2 (BxRep w R) F.pb outs := fun hR => (outBxs_ok h hR _ _ _ h2 F.pb hnb fun k m hk => by rw [Nat.zero_add]; exact (h.pb k m hk).2).1
  have hchg : Chg (fun j => j ∈ F.pb) F.w0 w := h.chg
  have keyF := key (fun _ => False) (fun _ h => h.elim) (fun _ _ _ _ _ _ h => h) _ rfl
  have gen : ∀ (m : Md) (rs : List ResultVar), rs = fi.res → fi.mode = m → (m = .fresh ∨ m = .alias) → ∀ us, (resVars cx rs).run (get σ) = some us → (outV1s m us).run (get σ) = some res → (∀ cs, res = [.bx cs] → False) →
      ∃ v, (results fn a.tmps).run P w = .ok v w ∧ Post cx.ek F.w0 F.A F.pb ⟨true, res, outs, fi.mode⟩ (.returned v) w := by
    intro m rs hrs hm hm2 us hus hout hnb'
    obtain ⟨vs, e1, e2⟩ := resVars_ok htab h rs us hus
    refine ⟨tupV vs, run_results (by rw [hres, ← hrs]; exact e1), tupV vs, rfl, hchg, _, keyF.2.2, houts (by rw [hm]; rcases hm2 with rfl | rfl <;> exact keyF.1), ?_⟩
    rcases hm2 with rfl | rfl
    · rw [hm]
      have e3 := outV1s_ok h keyF.2.1 e2 hout
      cases hres : res with
      | nil => rw [hres] at e3; exact ⟨vs, rfl, e3⟩
      | cons x l => rw [hres] at e3 hnb'; cases x with
        | c y => exact ⟨vs, rfl, e3⟩
        | agg y => exact ⟨vs, rfl, e3⟩
        | bx y => cases l with
          | nil => exact absurd rfl (hnb' y)
          | cons z l => exact ⟨vs, rfl, e3⟩
    · rw [hm]
      have e3 := outV1s_ok h keyF.1 e2 hout
      cases hres : res with
      | nil => rw [hres] at e3; exact ⟨vs, rfl, e3⟩
      | cons x l => rw [hres] at e3 hnb'; cases x with
        | c y => exact ⟨vs, rfl, e3⟩
        | agg y => exact ⟨vs, rfl, e3⟩
        | bx y => cases l with
          | nil => exact absurd rfl (hnb' y)
          | cons z l => exact ⟨vs, rfl, e3⟩
  have nobx : ∀ (m : Md) (us : List V1), (outV1s m us).run (get σ) = some res → ∀ cs, res = [.bx cs] → False := by
    intro m us hu cs hc
    cases us with
    | nil => have := run_ret hu; rw [← this] at hc; cases hc
    | cons u us =>
      obtain ⟨x, h3, hu⟩ := run_bind_some hu
      obtain ⟨ys, h4, hu⟩ := run_bind_some hu
      have := run_ret hu
      rw [← this] at hc
      cases hc
      cases u with
      | cell c => obtain ⟨x, h5, h3⟩ := run_bind_some h3; have := run_ret h3; cases this
      | agg c => obtain ⟨x, h5, h3⟩ := run_bind_some h3; have := run_ret h3; cases this
  cases hm : fi.mode with
  | fresh =>
    unfold resOf at h1
    rw [hm] at h1
    obtain ⟨us, hus, h1⟩ := run_bind_some h1
    have := gen .fresh fi.res rfl hm (.inl rfl) us hus h1 (nobx _ _ h1)
    rw [hm] at this
    exact this
  | mix os =>
    rw [hm] at h1
    obtain ⟨us, hus, h1⟩ := run_bind_some h1
    obtain ⟨q, hq, h1⟩ := run_bind_some h1
    obtain ⟨ht, h1⟩ := run_test h1
    have := run_ret h1; subst this
    simp only [Bool.and_eq_true, List.all_eq_true, Bool.not_eq_true', List.any_eq_false] at ht
    obtain ⟨ht1, ht2⟩ := ht
    obtain ⟨vs, e1, e2⟩ := resVars_ok htab h _ _ hus
    let G' : Nat → Prop := fun j => (F.base ≤ j ∧ j < w.heap.size) ∧ ¬ ∃ i ∈ q.2.owns, (∃ fr d, get σ (.r i) = .row true fr d) ∧ (g.rv i).ownBlock = some j
    have hX : ∀ j, g.G j → ¬ ∃ i ∈ q.2.owns, (∃ fr d, get σ (.r i) = .row true fr d) ∧ (g.rv i).ownBlock = some j := fun j hj hx => by
      obtain ⟨i, _, ⟨fr, d, hd⟩, hb⟩ := hx
      obtain ⟨_, _, _, h5⟩ := h.row i _ _ _ hd
      exact (h5 j hb).1 hj
    have hG1 : ∀ j, g.G j → F.base ≤ j → G' j := fun j hj hb => ⟨⟨hb, h.gb j hj⟩, hX j hj⟩
    have hG2 : ∀ i fr d b, i ∉ q.2.owns → get σ (.r i) = .row true fr d → (g.rv i).ownBlock = some b → G' b := fun i fr d b hi hd hb => ⟨⟨hMr i fr d b hd hb, h.own_lt hd hb⟩, fun hx => by
      obtain ⟨i', hi', ⟨fr', d', hd'⟩, hb'⟩ := hx
      exact h.sepR i i' _ _ _ _ b (fun e => hi (e ▸ hi')) hd hd' hb hb'⟩
    have hGA : ∀ j, g.G j → F.A j ∨ G' j := fun j hj => by
      rcases h.ga j hj with hA | hM | hb
      · exact .inl hA
      · exact absurd hj (hMg j hM)
      · exact .inr (hG1 j hj hb)
    obtain ⟨e3, e4⟩ := outMV_ok (ek := cx.ek) h hek hG1 hGA hG2 e2 hq fun i hi hn => ht2 i hi i hn (Nat.beq_refl i)
    have hnd : q.2.owns.Nodup := nodupB_nodup _ ht1
    obtain ⟨e5, e6⟩ := ownBs_nodup h _ hnd e4
    refine ⟨tupV vs, run_results (by rw [hres]; exact e1), tupV vs, rfl, hchg, G', fun j hj => ⟨by rw [← hbase]; exact hj.1.1, hj.1.2⟩, houts (by
      rw [hm]
      exact ⟨fun j hj _ => hGA j hj, fun e => by cases e⟩), vs, _, rfl, e3, e5, fun b hb => ?_⟩
    obtain ⟨i, hi, hib⟩ := e6 b hb
    obtain ⟨d, hd⟩ := e4 i hi
    exact ⟨by rw [← hbase]; exact hMr i _ _ b hd hib, fun hg => hg.2 ⟨i, hi, ⟨_, _, hd⟩, hib⟩⟩
  | take => rw [hm] at h1; cases h1
  | write => rw [hm] at h1; cases h1
  | alias =>
    rw [hm] at h1
    by_cases hone : ∃ r, fi.res = [r]
    · obtain ⟨r, hrs⟩ := hone
      rw [hrs] at h1
      obtain ⟨x, h3, h1⟩ := run_bind_some h1
      obtain ⟨v, e1, e2⟩ := resVar_ok htab h h3
      have hrun : (results fn a.tmps).run P w = .ok v w := run_results (vs := [v]) (by rw [hres, hrs]; simp [List.mapM_cons, e1])
      split at h1
      · rename_i u
        obtain ⟨y, h4, h1⟩ := run_bind_some h1
        have := run_ret h1; subst this
        have e3 := outV1_ok h keyF.1 e2 h4
        refine ⟨v, hrun, v, rfl, hchg, _, keyF.2.2, houts (by rw [hm]; exact keyF.1), ?_⟩
        cases y with
        | c z => exact ⟨[v], rfl, .cons e3 .nil⟩
        | agg z => exact ⟨[v], rfl, .cons e3 .nil⟩
        | bx z => exact e3.elim
      · rename_i b
        obtain ⟨hle, h1⟩ := run_test h1
        have hle : fi.nb ≤ b := by simpa using hle
        obtain ⟨y, h4, h1⟩ := run_bind_some h1
        have := run_ret h1; subst this
        have h4' := run_ask h4
        split at h4'
        · rename_i cs hcs
          obtain ⟨_, us, ty, q1, q2, q3, q4⟩ := h.box b cs hcs
          obtain ⟨_, rfl⟩ := e2
          have keyX := key (fun j => j = g.bb b) (fun j hj => by rw [hj]; exact q3) (fun i fr d b' hi hb' e => h.sepRB i b fr d cs hi hcs (by rw [hb', e])) _ rfl
          have hnew : F.base ≤ g.bb b := by
            rcases q4 with q | q
            · exact q
            · obtain ⟨k, cs2, hk, hcs2, hlt⟩ := hboxes _ q
              exact absurd hk (h.sepB k b cs2 cs (by omega) hcs2 hcs)
          refine ⟨_, hrun, _, rfl, hchg, _, keyX.2.2, houts (by rw [hm]; exact keyX.1), _, rfl, by rw [← hbase]; exact hnew, fun hg => hg.2 rfl, us, ty, q1, outCs_ok h keyX.1 q2 h4'⟩
        · cases h4'
      · cases h1
    · have h1 : ((resVars cx fi.res).bind fun us => outV1s .alias us).run (get σ) = some res := by
        cases hrs : fi.res with
        | nil => rw [hrs] at h1; exact h1
        | cons r l => cases l with
          | nil => exact absurd ⟨r, hrs⟩ hone
          | cons r2 l => rw [hrs] at h1; exact h1
      obtain ⟨us, hus, h1⟩ := run_bind_some h1
      have := gen .alias fi.res rfl hm (.inr rfl) us hus h1 (nobx _ _ h1)
      rw [hm] at this
      exact this
theorem runF_give {cx : Cx} {fi : FnI} {n : Nat} {args : List DA} {r : List DA × List (List SC)} (hr : runF cx fi n args = some r) : isGive fi.mode = false := by
  unfold runF at hr
  split at hr
  · rename_i hc
    simp only [Bool.and_eq_true, Bool.not_eq_true'] at hc
    exact hc.2
  · cases hr
/-- A function: its run is what the executor finds. -/
theorem runF_ok (htab : TabOk P cx) (hΦ : Sound P cx.ek cx.Φ) (hmix : P.follows .mixedOrders = true) {fi : FnI} (hf : FnOk P fi) {n : Nat} {args : List DA} {res : List DA} {outs : List (List SC)} (hr : runF cx fi n args = some (res, outs))
    {A : Nat → Prop} {vals : List Value} {bs : List Nat} (hargs : ArgsRep w A vals args bs) (hnd : bs.Nodup) (hA : ∀ j, A j → j < w.heap.size) : Calls P fi.f vals.toArray w (Post cx.ek w A bs ⟨true, res, outs, fi.mode⟩) := by
  obtain ⟨fn, h1, h2, h3, h4, _⟩ := hf.ex
  unfold runF at hr
  split at hr
  · rename_i hc
    simp only [Bool.and_eq_true] at hc
    replace hc := hc.1
    have hnb : fi.nb = bs.length := by rw [hargs.len.2]; exact (Nat.eq_of_beq_eq_true hc.1).symm
    have hs := start_ok (ek := cx.ek) (nt := fi.nt) hargs hnd hA (by simpa using hc.2)
    refine calls_of_wp h1 h2 ?_
    rw [h3]
    refine wp_mono (cxK_ok (F := ⟨cx.ek, w.heap.size, bs, w, fi.nt, A⟩) ⟨htab, hΦ, rfl, rfl, hnb, hmix⟩ n fi.body _ _ _ _ _ _ _ hr hs) fun e a' w' hq => ?_
    have fin : ∀ σ' g', finK cx fi σ' = some (res, outs) → Sat ⟨cx.ek, w.heap.size, bs, w, fi.nt, A⟩ σ' a' w' g' → a'.defers = [] ∧ ∃ v, (results fn a'.tmps).run P w' = .ok v w' ∧ Post cx.ek w A bs ⟨true, res, outs, fi.mode⟩ (.returned v) w' := fun σ' g' hk hs' => by
      obtain ⟨x, hx1, hx2⟩ := runK_some hk
      cases hx2
      exact ⟨hs'.defs, fin_ok htab hs' rfl h4 hnb.symm hA hx1⟩
    cases e with
    | normal => obtain ⟨σ', g', hk, hs'⟩ := hq; exact fin σ' g' hk hs'
    | ret => obtain ⟨σ', g', hk, hs'⟩ := hq; exact fin σ' g' hk hs'
    | exit i => obtain ⟨σ', g', hk, hs'⟩ := hq; cases hk
    | goto l => exact hq.elim
    | panic ch => exact hq.elim
    | outgrown => exact hq.elim
  · cases hr
end
/-- The oracle, with one more function. -/
def ext (Φ : FuncId → List DA → Option Sp) (f : FuncId) (S : List DA → Option Sp) : FuncId → List DA → Option Sp := fun h args => match Nat.beq f h with
  | true => S args
  | false => Φ h args
theorem ext_ok {P : Program} {cx : Cx} (htab : TabOk P cx) (hΦ : Sound P cx.ek cx.Φ) (hmix : P.follows .mixedOrders = true) {fi : FnI} (hf : FnOk P fi) {S : List DA → Option Sp}
    (hS : ∀ args sp, S args = some sp → sp.pre = true → sp.mode = fi.mode ∧ ∃ n, runF cx fi n args = some (sp.res, sp.outs)) : Sound P cx.ek (ext cx.Φ fi.f S) := by
  intro f args sp hsp hpre
  unfold ext at hsp
  split at hsp
  · rename_i he
    have he : fi.f = f := Nat.eq_of_beq_eq_true he
    subst he
    obtain ⟨hm, n, hn⟩ := hS args sp hsp hpre
    obtain ⟨fn, h1, h2, _, _, h5⟩ := hf.ex
    refine ⟨⟨fn, h1, by rw [h2]; rfl, h5⟩, fun _ w A vals bs hargs hnd hA => ?_, fun hg => by rw [hm, runF_give hn] at hg; cases hg⟩
    have := runF_ok htab hΦ hmix hf hn hargs hnd hA
    obtain ⟨p, r, o, m⟩ := sp
    simp only at hm hpre
    subst hm hpre
    exact this
  · exact hΦ f args sp hsp hpre
end Vx
