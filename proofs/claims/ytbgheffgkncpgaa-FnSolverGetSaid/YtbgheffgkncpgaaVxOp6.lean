/- The operations: what writes. Conditions: those that each theorem states. -/
import Derived.Test.YtbgheffgkncpgaaVxOp5
import Derived.Laws.CopyRow
set_option linter.unusedVariables false
set_option linter.unusedSimpArgs false
namespace Vx
open Go Go.RowKit

section
variable {P : Program} {cx : Cx} {F : Fr} {σ : St} {a : Act} {w : World} {g : Gm}
theorem cell_one (h : Sat F σ a w g) {u : Value} {c : Cell} (hu : CellRep g F.base w u c) (ho : oneC c = true) : u.oneCell' = true := by
  cases c with
  | sc v =>
    obtain rfl := (hu : u = v)
    cases u <;> first | rfl | cases ho
  | ro fr d => obtain ⟨A, cap, rfl, _⟩ := hu; rfl
  | ref i =>
    obtain ⟨h1, h2⟩ := hu
    obtain ⟨A, l, c, e⟩ := (h.dr i h1).2
    rw [e] at h2
    subst h2
    rfl
theorem all_one (h : Sat F σ a w g) {us : List Value} {cs : List Cell} (hu : All2 (CellRep g F.base w) us cs) (ho : cs.all oneC = true) : ∀ v ∈ us, v.oneCell' = true := by
  induction hu with
  | nil => intro v hv; cases hv
  | cons h1 t ih =>
    simp only [List.all_cons, Bool.and_eq_true] at ho
    intro v hv
    rcases List.mem_cons.1 hv with rfl | hv
    · exact cell_one h h1 ho.1
    · exact ih ho.2 v hv
theorem Chg.setRow (w : World) (n : Nat) (cs : Array Value) : Chg (fun j => j = n) w (w.setRow n cs) :=
  ⟨rfl, rfl, rfl, by simp [World.setRow], fun j _ hj => setRow_other w n j cs hj⟩
theorem All2.repl {α β : Type} {R : α → β → Prop} {as us : List α} {bs vs : List β} (h : All2 R as bs) (k : All2 R us vs) (off : Nat) : All2 R (as.take off ++ us ++ as.drop (off + us.length)) (replAt bs off vs) := by
  unfold replAt
  rw [← k.length]
  exact ((h.take off).append k).append (h.drop _)
/-- A store into a box. -/
theorem storeBox_ok (h : Sat F σ a w g) {t : TypeId} {ti : TI} (ht : TIok P t ti) {b off : Nat} {cs us : List Cell} (hb : get σ (.b b) = .box cs) {u v : Value} (hu : u = .pointer (some ⟨g.bb b, off, none⟩)) (hv : All2 (CellRep g F.base w) v.cells.toList us)
    (hl : us.length = ti.size) (hf : off + ti.size ≤ cs.length) (ho : us.all oneC = true) : ∃ w', (Instr.storeAt t u v).run P w = .ok () w' ∧ Sat F ((.b b, .box (replAt cs off us)) :: σ) a w' g := by
  subst hu
  obtain ⟨hb1, vs, ty, hb2, hb3, hb4, hb5⟩ := h.box b cs hb
  have hvl : v.cells.size = ti.size := by rw [← hl, ← hv.length]; simp
  have hlen := hb3.length
  have hrun := run_storeCells_at P (g.bb b) off ty v.cells.toList 0 vs.toArray w hb2 (by simp; omega) (all_one h hv ho)
  refine ⟨_, by simp [Instr.storeAt, Instr.sureAddr, storeVar, run_sizeOf' ht, hvl]; exact hrun, ?_⟩
  refine h.setBox (Chg.setRow w _ _) hb (fun j hj => hj) (us := vs.take off ++ v.cells.toList ++ vs.drop (off + v.cells.toList.length)) (ty := ty) ?_ ?_
  · have := setRow_heap w (g.bb b) vs.toArray (vs.take off ++ v.cells.toList ++ vs.drop (off + v.cells.toList.length)).toArray ty (0, 0) hb2
    simpa using this
  · have hc := Chg.setRow w (g.bb b) ((vs.take off ++ v.cells.toList ++ vs.drop (off + v.cells.toList.length)).toArray)
    have hg : ∀ j, g.G j → ¬ (j = g.bb b) := fun j hj e => hb4 (e ▸ hj)
    have := (hb3.repl hv off).imp fun _ _ hr => CellRep.chg hc hg g.le_refl hr
    simpa using this
/-- A cell that goes into an element. -/
theorem innerR_ok (h : Sat F σ a w g) {c : Cell} {u : Value} (hu : CellRep g F.base w u c) {xs : List Int} {fr : Bool} {fz : List (Loc × Ct)} (hr : (innerR c).run (get σ) = some (xs, fr, fz)) :
    ∃ g', Sat F (push fz σ) a w g' ∧ g.le g' ∧ g'.rv = g.rv ∧ DRep w (PG g' F.base fr) u (.ir xs) ∧ (∀ p ∈ fz, ∃ i fr d, p = (.r i, .row false fr d) ∧ (∃ o, get σ (.r i) = .row o fr d) ∧ c = .ref i) := by
  have conv : ∀ {Pj : Nat → Prop}, RowRep w Pj u (.ints .i64 xs) → DRep w Pj u (.ir xs) := fun {Pj} hh => by
    obtain ⟨A, cap, e1, e2, e3⟩ := hh
    refine ⟨A, cap, e1, e2, fun hl => ?_⟩
    obtain ⟨ad, ha, hb, hc⟩ := e3 hl
    refine ⟨ad, ha, hb, fun j hj => ?_⟩
    obtain ⟨x, hx1, hx2⟩ := hc j (.sc (.int .i64 (xs.getD j 0))) (by simp [Row.flat, List.getD_eq_getElem?_getD, List.getElem?_eq_getElem hj])
    rw [hx1, hx2]
  unfold innerR at hr
  split at hr
  · have := run_ret hr
    cases this
    exact ⟨g, h, g.le_refl, rfl, conv hu, fun p hp => (by cases hp)⟩
  · rename_i i
    have hr' := run_ask hr
    split at hr'
    · rename_i own fr' ys hd
      have := run_ret hr'
      cases this
      obtain ⟨hu1, rfl⟩ := hu
      have hmem : ∀ p ∈ [((Loc.r i, Ct.row false fr (Row.ints .i64 xs)) : Loc × Ct)], ∃ i' fr' d, p = (.r i', .row false fr' d) ∧ (∃ o, get σ (.r i') = .row o fr' d) ∧ Cell.ref i = .ref i' := fun p hp => by
        simp only [List.mem_singleton] at hp
        exact ⟨i, fr, _, hp, ⟨own, hd⟩, rfl⟩
      cases own with
      | true =>
        obtain ⟨g', hs, hle, hrv, _⟩ := h.freeze hd
        obtain ⟨_, _, hrow⟩ := hs.row i false fr _ (get_same _ _ _)
        refine ⟨g', hs, hle, hrv, conv ?_, hmem⟩
        rw [hrv] at hrow
        exact hrow
      | false =>
        obtain ⟨_, _, hrow⟩ := h.row i _ _ _ hd
        refine ⟨g, h.ext fun l => ?_, g.le_refl, rfl, conv hrow, hmem⟩
        show get ((Loc.r i, Ct.row false fr (Row.ints .i64 xs)) :: σ) l = get σ l
        by_cases e : l = .r i
        · subst e; rw [get_same, hd]
        · exact get_other e _ _
    · cases hr'
  · cases hr
theorem get_push_cong {ws : List (Loc × Ct)} {σ τ : St} {l : Loc} (h : get σ l = get τ l) : get (push ws σ) l = get (push ws τ) l := by
  induction ws generalizing σ τ with
  | nil => exact h
  | cons x ws ih => exact ih (by rw [get_cons, get_cons, h])
/-- The freezing of a row is a weaker state; reading the same locations again. -/
theorem get_push_frozen {σ : St} {fz : List (Loc × Ct)} (hf : ∀ p ∈ fz, ∃ i fr d, p = (.r i, .row false fr d) ∧ ∃ o, get σ (.r i) = .row o fr d) (l : Loc) : get (push fz σ) l = get σ l ∨ ∃ i fr d, l = .r i ∧ get (push fz σ) l = .row false fr d ∧ ∃ o, get σ (.r i) = .row o fr d := by
  have key : ∀ (fz : List (Loc × Ct)) (τ : St), (∀ p ∈ fz, ∃ i fr d, p = (.r i, .row false fr d) ∧ ∃ o, get σ (.r i) = .row o fr d) → (get τ l = get σ l ∨ ∃ i fr d, l = .r i ∧ get τ l = .row false fr d ∧ ∃ o, get σ (.r i) = .row o fr d) →
      (get (push fz τ) l = get σ l ∨ ∃ i fr d, l = .r i ∧ get (push fz τ) l = .row false fr d ∧ ∃ o, get σ (.r i) = .row o fr d) := by
    intro fz
    induction fz with
    | nil => intro τ _ h; exact h
    | cons p fz ih =>
      intro τ hf h
      refine ih _ (fun q hq => hf q (List.mem_cons_of_mem _ hq)) ?_
      obtain ⟨i, fr, d, rfl, o, ho⟩ := hf p List.mem_cons_self
      by_cases e : l = .r i
      · subst e; exact .inr ⟨i, fr, d, rfl, get_same _ _ _, o, ho⟩
      · rw [get_other e]; exact h
  exact key fz σ hf (.inl rfl)
/-- What an element's flat cells become. -/
theorem flat_setI (k : IntKind) (xs : List Int) (e : Nat) (n : Int) : (Row.ints k (xs.set e n)).flat = (Row.ints k xs).flat.set e (.sc (.int k n)) := by
  simp [Row.flat, List.map_set]
theorem flat_setS (xs : List ByteArray) (e : Nat) (s : ByteArray) : (Row.strs (xs.set e s)).flat = (Row.strs xs).flat.set e (.sc (.string s)) := by
  simp [Row.flat, List.map_set]
theorem flat_setE (xs : List (List Int × ByteArray)) (e : Nat) (p : List Int × ByteArray) (he : e < xs.length) : (Row.eqs (xs.set e p)).flat = ((Row.eqs xs).flat.set (e * 2) (.ir p.1)).set (e * 2 + 1) (.sc (.string p.2)) := by
  simp only [Row.flat]
  induction xs generalizing e with
  | nil => simp at he
  | cons x xs ih =>
    cases e with
    | zero => simp
    | succ e =>
      have := ih e (by simpa using he)
      simp only [List.set_cons_succ, List.flatMap_cons, this]
      simp [Nat.succ_mul, List.set_append]
end
end Vx
