/- The operations: what makes memory. Conditions: those that each theorem states. -/
import Derived.Test.YtbgheffgkncpgaaVxOp4
set_option linter.unusedVariables false
set_option linter.unusedSimpArgs false
namespace Vx
open Go Go.RowKit

def push (ws : List (Loc × Ct)) (σ : St) : St := ws.foldl (fun σ w => w :: σ) σ
theorem push_append (a b : List (Loc × Ct)) (σ : St) : push (a ++ b) σ = push b (push a σ) := by simp [push]
theorem push_cons (w : Loc × Ct) (b : List (Loc × Ct)) (σ : St) : push (w :: b) σ = push b (w :: σ) := rfl
theorem push_nil (σ : St) : push [] σ = σ := rfl
theorem get_push_other {ws : List (Loc × Ct)} {l : Loc} (h : ∀ p ∈ ws, p.1 ≠ l) (σ : St) : get (push ws σ) l = get σ l := by
  induction ws generalizing σ with
  | nil => rfl
  | cons w ws ih =>
    rw [push_cons, ih fun p hp => h p (List.mem_cons_of_mem _ hp)]
    exact get_other (Ne.symm (h w List.mem_cons_self)) _ _
theorem newLoc_ok {α : Type} {l : Loc} {m : Rd α} {G : Loc → Ct} {y : α} (h : (newLoc l m).run G = some y) : G l = .no ∧ m.run G = some y := by
  have h' := run_ask h
  split at h'
  · rename_i hl; exact ⟨hl, h'⟩
  · cases h'
theorem Gm.le.le_trans {a b c : Gm} (h : a.le b) (k : b.le c) : a.le c :=
  ⟨fun i hi => (k.rv i (h.dr i hi)).trans (h.rv i hi), fun i hi => (k.wd i (h.dr i hi)).trans (h.wd i hi), fun i hi => (k.ln i (h.dr i hi)).trans (h.ln i hi), fun i hi => (k.bb i (h.db i hi)).trans (h.bb i hi), fun j hj => k.G j (h.G j hj), fun i hi => k.dr i (h.dr i hi), fun i hi => k.db i (h.db i hi)⟩
theorem CellRep.le {g g' : Gm} {base : Nat} {w : World} {u : Value} {c : Cell} (h : CellRep g base w u c) (hg : g.le g') : CellRep g' base w u c := h.chg (Chg.refl (fun _ => False) w) (fun _ _ h => h) hg
theorem AVRep.le {g g' : Gm} {base : Nat} {w : World} {u : Value} {c : AV} (h : AVRep g base w u c) (hg : g.le g') : AVRep g' base w u c := h.chg (Chg.refl (fun _ => False) w) (fun _ _ h => h) hg
theorem nil_own (w : World) (Pj : Nat → Prop) (e : TypeId) (k : RK) : OwnRep w Pj e (.slice none 0 0) (Row.nil k) := by
  refine ⟨[], ⟨?_, .inl ⟨rfl, ?_⟩⟩, fun j c hj => ?_⟩
  · cases k <;> simp [Row.nil, Row.len]
  · cases k <;> rfl
  · cases k <;> simp [Row.nil, Row.flat] at hj
theorem nil_kind (k : RK) : (Row.nil k).kind = k := by cases k <;> rfl

section
variable {P : Program} {cx : Cx} {F : Fr} {σ : St} {a : Act} {w : World} {g : Gm}
theorem zeroR_ok (h : Sat F σ a w g) : ∀ (zs : List ZC) (_ : ∀ k, ZC.nil k ∈ zs → (ekOf F.ek k).isSome = true) (id : Nat) (cs : List Cell) (ws : List (Loc × Ct)), (zeroR zs id).run (get σ) = some (cs, ws) →
    (∀ p ∈ ws, ∃ j, id ≤ j ∧ p.1 = .r j) ∧ ∃ g', Sat F (push ws σ) a w g' ∧ g.le g' ∧ All2 (CellRep g' F.base w) (zs.map zval) cs
  | [], _, id, cs, ws, hr => by
    have := run_ret hr
    cases this
    exact ⟨fun p hp => (by cases hp), g, h, g.le_refl, .nil⟩
  | z :: zs, hn, id, cs, ws, hr => by
    obtain ⟨⟨cs', ws'⟩, h1, hr⟩ := run_bind_some hr
    obtain ⟨hk, g', hs, hle, hall⟩ := zeroR_ok h zs (fun k hk => hn k (List.mem_cons_of_mem _ hk)) (id + 1) cs' ws' h1
    split at hr
    · have := run_ret hr; cases this
      exact ⟨fun p hp => let ⟨j, hj, e⟩ := hk p hp; ⟨j, by omega, e⟩, g', hs, hle, .cons rfl hall⟩
    · have := run_ret hr; cases this
      exact ⟨fun p hp => let ⟨j, hj, e⟩ := hk p hp; ⟨j, by omega, e⟩, g', hs, hle, .cons rfl hall⟩
    · have := run_ret hr; cases this
      exact ⟨fun p hp => let ⟨j, hj, e⟩ := hk p hp; ⟨j, by omega, e⟩, g', hs, hle, .cons rfl hall⟩
    · rename_i k _
      obtain ⟨hno, hr⟩ := newLoc_ok hr
      have := run_ret hr; cases this
      have hno' : get (push ws' σ) (.r id) = .no := by
        rw [get_push_other fun p hp e => by
          obtain ⟨j, hj, e'⟩ := hk p hp
          rw [e'] at e; injection e with e; omega]
        exact hno
      have hex : ∃ e, ekOf F.ek k = some e := Option.isSome_iff_exists.1 (hn k List.mem_cons_self)
      obtain ⟨e, he⟩ := hex
      have hs' := hs.newRow hno' (fr := true) (d := Row.nil k) (v := .slice none 0 0) (by rw [nil_kind]; exact he) (nil_own w _ e k) (fun b hb => by cases hb)
      have hnd : ¬ g'.dr id := fun hd => (hs.dr id hd).1 hno'
      have hle' := g'.setR_le hnd (.slice none 0 0) (Row.nil k)
      have hsw : Sat F (push ((.r id, .row true true (Row.nil k)) :: ws') σ) a w (g'.setR id (.slice none 0 0) (Row.nil k)) := by
        refine hs'.ext fun l => ?_
        by_cases e : l = .r id
        · subst e
          rw [get_same, push_cons, get_push_other fun p hp e => by
            obtain ⟨j, hj, e'⟩ := hk p hp
            rw [e'] at e; injection e with e; omega]
          exact get_same _ _ _
        · rw [get_other e]
          clear hs' hs hno' hall hnd hle' hle h1 hno hr
          show get (push ws' ((.r id, .row true true (Row.nil k)) :: σ)) l = get (push ws' σ) l
          generalize Ct.row true true (Row.nil k) = c
          have : ∀ (ws : List (Loc × Ct)) (σ τ : St), (∀ l, l ≠ Loc.r id → get σ l = get τ l) → get (push ws σ) l = get (push ws τ) l := by
            intro ws
            induction ws with
            | nil => intro σ τ h; exact h l e
            | cons x ws ih => intro σ τ h; exact ih _ _ fun m hm => by rw [get_cons, get_cons, h m hm]
          exact this ws' _ _ fun m hm => get_other hm _ _
      refine ⟨fun p hp => ?_, _, hsw, hle.le_trans hle', .cons ⟨.inr rfl, (if_pos rfl).symm⟩ (hall.imp fun _ _ h' => h'.le hle')⟩
      rcases List.mem_cons.1 hp with rfl | hp
      · exact ⟨id, Nat.le_refl _, rfl⟩
      · obtain ⟨j, hj, e⟩ := hk p hp
        exact ⟨j, by omega, e⟩
theorem alloc_heap_new (w : World) (o : Obj) : (w.alloc o).heap[w.heap.size]? = some o := heap_alloc_new w o
/-- A new box in the world. -/
theorem Sat.allocBox (h : Sat F σ a w g) {id : Nat} (hid : get σ (.b id) = .no) {cs : List Cell} {us : List Value} (ty : TypeId) (hus : All2 (CellRep g F.base w) us cs) :
    Sat F ((.b id, .box cs) :: σ) a (w.alloc (.cells us.toArray ty)) (g.setB id w.heap.size) ∧ g.le (g.setB id w.heap.size) := by
  have hnd : ¬ g.db id := fun hd => h.db id hd hid
  have hc := Chg.alloc (fun _ => False) w (.cells us.toArray ty)
  have hp := h.fresh (Nat.le_refl w.heap.size)
  have h' := h.world hc fun _ _ hx => hx.elim
  exact ⟨h'.newBox hid (heap_alloc_new w _) (hus.imp fun _ _ hu => hu.chg hc (fun _ _ h => h) g.le_refl) hp, g.setB_le hnd _⟩
theorem cellsOf_ok (h : Sat F σ a w g) {x : AV} {u : Value} {cs : List Cell} (hx : AVRep g F.base w u x) (hr : (cellsOf x).run (get σ) = some cs) : All2 (CellRep g F.base w) u.cells.toList cs ∧ (u.cells.all (·.oneCell') = true → True) := by
  refine ⟨?_, fun _ => trivial⟩
  unfold cellsOf at hr
  split at hr
  · split at hr
    · obtain rfl := run_ret hr
      obtain rfl := (hx : u = _)
      exact .cons rfl .nil
    · obtain rfl := run_ret hr
      obtain rfl := (hx : u = _)
      exact .cons rfl .nil
    · obtain rfl := run_ret hr
      obtain rfl := (hx : u = _)
      exact .cons rfl .nil
    · obtain rfl := run_ret hr
      have hx' := hx
      obtain ⟨A, cap, rfl, _⟩ := hx'
      exact .cons hx .nil
    · have hr' := run_ask hr
      split at hr'
      · rename_i own fr d hd
        obtain rfl := run_ret hr'
        obtain ⟨A, cap, e, _⟩ := h.rowLook hd
        have hx' := hx
        obtain ⟨_, hu⟩ := hx'
        rw [e] at hu
        subst hu
        exact .cons hx .nil
      · cases hr'
    · cases hr
  · rename_i cs'
    obtain rfl := run_ret hr
    obtain ⟨us, rfl, hall⟩ := hx
    exact hall
  · cases hr
end
end Vx
