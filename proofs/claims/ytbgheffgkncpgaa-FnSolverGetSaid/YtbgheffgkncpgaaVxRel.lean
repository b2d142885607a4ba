/- What an abstract state says of slots and a world; how it is kept. Conditions: those that each theorem states. -/
import Derived.Test.YtbgheffgkncpgaaVxExec
import Derived.Below
import Derived.WideLaws
set_option linter.unusedVariables false
set_option linter.unusedSimpArgs false
namespace Vx
open Go Go.RowKit

theorem get_cons (l m : Loc) (c : Ct) (σ : St) : get ((m, c) :: σ) l = if l = m then c else get σ l := by
  simp only [get]
  by_cases h : l = m
  · rw [if_pos h, Loc.beq_iff.2 h]
  · have hb : l.beq m = false := by
      cases hb : l.beq m
      · rfl
      · exact absurd (Loc.beq_iff.1 hb) h
    rw [if_neg h, hb]
theorem get_same (m : Loc) (c : Ct) (σ : St) : get ((m, c) :: σ) m = c := by rw [get_cons, if_pos rfl]
theorem get_other {l m : Loc} (h : l ≠ m) (c : Ct) (σ : St) : get ((m, c) :: σ) l = get σ l := by rw [get_cons, if_neg h]

inductive All2 {α β : Type} (R : α → β → Prop) : List α → List β → Prop where
  | nil : All2 R [] []
  | cons {a b as bs} (h : R a b) (t : All2 R as bs) : All2 R (a :: as) (b :: bs)
theorem All2.imp {α β : Type} {R S : α → β → Prop} {as : List α} {bs : List β} (h : All2 R as bs) (f : ∀ a b, R a b → S a b) : All2 S as bs := by
  induction h with
  | nil => exact .nil
  | cons h t ih => exact .cons (f _ _ h) ih
theorem All2.length {α β : Type} {R : α → β → Prop} {as : List α} {bs : List β} (h : All2 R as bs) : as.length = bs.length := by
  induction h with
  | nil => rfl
  | cons h t ih => simp [ih]
theorem All2.get {α β : Type} {R : α → β → Prop} {as : List α} {bs : List β} (h : All2 R as bs) : ∀ (j : Nat) b, bs[j]? = some b → ∃ a, as[j]? = some a ∧ R a b := by
  induction h with
  | nil => intro j b hb; simp at hb
  | cons h t ih =>
    intro j b hb
    cases j with
    | zero => simp at hb; subst hb; exact ⟨_, rfl, h⟩
    | succ j => simp at hb; obtain ⟨a, ha, hr⟩ := ih j b hb; exact ⟨a, by simpa using ha, hr⟩
theorem All2.of_get {α β : Type} {R : α → β → Prop} : ∀ {as : List α} {bs : List β}, as.length = bs.length → (∀ (j : Nat) a b, as[j]? = some a → bs[j]? = some b → R a b) → All2 R as bs
  | [], [], _, _ => .nil
  | [], _ :: _, h, _ => by simp at h
  | _ :: _, [], h, _ => by simp at h
  | a :: as, b :: bs, h, hr => .cons (hr 0 a b rfl rfl) (All2.of_get (by simpa using h) fun j x y hx hy => hr (j + 1) x y (by simpa using hx) (by simpa using hy))
theorem All2.append {α β : Type} {R : α → β → Prop} {as as' : List α} {bs bs' : List β} (h : All2 R as bs) (h' : All2 R as' bs') : All2 R (as ++ as') (bs ++ bs') := by
  induction h with
  | nil => exact h'
  | cons h t ih => exact .cons h ih
theorem All2.take {α β : Type} {R : α → β → Prop} {as : List α} {bs : List β} (h : All2 R as bs) (n : Nat) : All2 R (as.take n) (bs.take n) := by
  induction h generalizing n with
  | nil => simp; exact .nil
  | cons h t ih => cases n with
    | zero => simp; exact .nil
    | succ n => simp; exact .cons h (ih n)
theorem All2.drop {α β : Type} {R : α → β → Prop} {as : List α} {bs : List β} (h : All2 R as bs) (n : Nat) : All2 R (as.drop n) (bs.drop n) := by
  induction h generalizing n with
  | nil => simp; exact .nil
  | cons h t ih => cases n with
    | zero => simp; exact .cons h t
    | succ n => simp; exact ih n
theorem All2.map_right {α β γ : Type} {R : α → γ → Prop} {f : β → γ} {as : List α} {bs : List β} (h : All2 (fun a b => R a (f b)) as bs) : All2 R as (bs.map f) := by
  induction h with
  | nil => exact .nil
  | cons h t ih => exact .cons h ih

/-! ### Worlds -/
/-- Of what was there only blocks of X have turned. -/
structure Chg (X : Nat → Prop) (w w' : World) : Prop where
  os : w'.os = w.os
  tape : w'.tape = w.tape
  output : w'.output = w.output
  size : w.heap.size ≤ w'.heap.size
  block : ∀ j, j < w.heap.size → ¬ X j → w'.heap[j]? = w.heap[j]?
theorem Chg.refl (X : Nat → Prop) (w : World) : Chg X w w := ⟨rfl, rfl, rfl, Nat.le_refl _, fun _ _ _ => rfl⟩
theorem Chg.trans {X : Nat → Prop} {a b c : World} (h : Chg X a b) (k : Chg X b c) : Chg X a c :=
  ⟨k.os.trans h.os, k.tape.trans h.tape, k.output.trans h.output, Nat.le_trans h.size k.size, fun j hj hx => (k.block j (Nat.lt_of_lt_of_le hj h.size) hx).trans (h.block j hj hx)⟩
theorem Chg.mono {X Y : Nat → Prop} {w w' : World} (h : Chg X w w') (f : ∀ j, j < w.heap.size → X j → Y j) : Chg Y w w' :=
  ⟨h.os, h.tape, h.output, h.size, fun j hj hy => h.block j hj fun hx => hy (f j hj hx)⟩
theorem Chg.drew (X : Nat → Prop) (w : World) : Chg X w { w with drawn := w.drawn + 1 } := ⟨rfl, rfl, rfl, Nat.le_refl _, fun _ _ _ => rfl⟩
theorem Chg.alloc (X : Nat → Prop) (w : World) (o : Obj) : Chg X w (w.alloc o) := ⟨rfl, rfl, rfl, by simp, fun j hj _ => Below.heap_alloc w o j hj⟩
theorem Chg.grown {w w' : World} {row : Option Nat} (h : w.grownBy w' row) : Chg (fun j => row = some j) w w' :=
  ⟨h.os, h.tape, h.output, h.size, fun j hj hx => h.block j hj fun e => hx e.symm⟩
theorem Chg.cell {X : Nat → Prop} {w w' : World} (h : Chg X w w') {p : Addr} {v : Value} (hc : w.cell? p = some v) (hx : ¬ X p.block) : w'.cell? p = some v :=
  (World.cell?_of_block (h.block _ (World.block_lt_of_cell? w p hc) hx)).trans hc

def DRep (w : World) (Pj : Nat → Prop) (u : Value) : DC → Prop
  | .sc v => u = v
  | .ir xs => ∃ A cap, u = .slice A xs.length cap ∧ xs.length ≤ cap ∧ (0 < xs.length → ∃ ad, A = some ad ∧ Pj ad.block ∧ ∀ j, j < xs.length → w.cell? (ad.add j) = some (.int .i64 (xs.getD j 0)))
def RowRep (w : World) (Pj : Nat → Prop) (u : Value) (d : Row) : Prop :=
  ∃ A cap, u = .slice A d.len cap ∧ d.len ≤ cap ∧ (0 < d.len → ∃ ad, A = some ad ∧ Pj ad.block ∧ ∀ j c, d.flat[j]? = some c → ∃ x, w.cell? (ad.add j) = some x ∧ DRep w Pj x c)
def OwnRep (w : World) (Pj : Nat → Prop) (e : TypeId) (u : Value) (d : Row) : Prop :=
  ∃ cs : List Value, w.ownsRow 0 e d.wd u d.len cs ∧ ∀ (j : Nat) c, d.flat[j]? = some c → ∃ x : Value, cs[j]? = some x ∧ DRep w Pj x c

theorem add_block (ad : Addr) (j : Nat) : (ad.add j).block = ad.block := by unfold Addr.add; split <;> rfl
theorem DRep.chg {X Pj Pj' : Nat → Prop} {w w' : World} (h : Chg X w w') (hx : ∀ j, Pj j → ¬ X j) (hp : ∀ j, Pj j → Pj' j) {u : Value} {c : DC} (hr : DRep w Pj u c) : DRep w' Pj' u c := by
  cases c with
  | sc v => exact hr
  | ir xs =>
    obtain ⟨A, cap, h1, h2, h3⟩ := hr
    refine ⟨A, cap, h1, h2, fun hl => ?_⟩
    obtain ⟨ad, ha, hb, hc⟩ := h3 hl
    exact ⟨ad, ha, hp _ hb, fun j hj => h.cell (hc j hj) (by rw [add_block]; exact hx _ hb)⟩
theorem RowRep.chg {X Pj Pj' : Nat → Prop} {w w' : World} (h : Chg X w w') (hx : ∀ j, Pj j → ¬ X j) (hp : ∀ j, Pj j → Pj' j) {u : Value} {d : Row} (hr : RowRep w Pj u d) : RowRep w' Pj' u d := by
  obtain ⟨A, cap, h1, h2, h3⟩ := hr
  refine ⟨A, cap, h1, h2, fun hl => ?_⟩
  obtain ⟨ad, ha, hb, hc⟩ := h3 hl
  refine ⟨ad, ha, hp _ hb, fun j c hj => ?_⟩
  obtain ⟨x, hx1, hx2⟩ := hc j c hj
  exact ⟨x, h.cell hx1 (by rw [add_block]; exact hx _ hb), hx2.chg h hx hp⟩
theorem ownsRow_chg {X : Nat → Prop} {w w' : World} (h : Chg X w w') {b : Nat} {e : TypeId} {size n : Nat} {v : Value} {xs : List Value} (hr : w.ownsRow b e size v n xs) (hx : ∀ j, v.ownBlock = some j → ¬ X j) : w'.ownsRow b e size v n xs := by
  refine ⟨hr.1, ?_⟩
  rcases hr.2 with h1 | ⟨g, cap, cur, rfl, hb, hg, rest⟩
  · exact .inl h1
  · refine .inr ⟨g, cap, cur, rfl, hb, ?_, rest⟩
    rw [h.block g (Array.getElem?_eq_some_iff.1 hg).1 (hx g rfl)]
    exact hg
theorem OwnRep.chg {X Pj Pj' : Nat → Prop} {w w' : World} (h : Chg X w w') (hx : ∀ j, Pj j → ¬ X j) (hp : ∀ j, Pj j → Pj' j) {e : TypeId} {u : Value} {d : Row} (hr : OwnRep w Pj e u d) (ho : ∀ j, u.ownBlock = some j → ¬ X j) : OwnRep w' Pj' e u d := by
  obtain ⟨cs, h1, h2⟩ := hr
  exact ⟨cs, ownsRow_chg h h1 ho, fun j c hj => let ⟨x, hx1, hx2⟩ := h2 j c hj; ⟨x, hx1, hx2.chg h hx hp⟩⟩
theorem flat_len (d : Row) : d.flat.length = d.len * d.wd := by
  cases d with
  | ints k xs => simp [Row.flat, Row.len, Row.wd]
  | strs xs => simp [Row.flat, Row.len, Row.wd]
  | eqs xs =>
    simp only [Row.flat, Row.len, Row.wd]
    induction xs with
    | nil => rfl
    | cons x xs ih => simp only [List.flatMap_cons, List.length_append, ih, List.length_cons, List.length_nil]; omega
theorem wd_pos (d : Row) : 0 < d.wd := by cases d <;> simp [Row.wd]
/-- A row of one's own, looked at. -/
theorem OwnRep.row {w : World} {Pj : Nat → Prop} {e : TypeId} {u : Value} {d : Row} (hr : OwnRep w Pj e u d) {Pk : Nat → Prop} (hp : ∀ j, Pj j → Pk j) (ho : ∀ j, u.ownBlock = some j → Pk j) : RowRep w Pk u d := by
  obtain ⟨cs, h1, h2⟩ := hr
  have hcell := fun {g} (hg : u.ownBlock = some g) => h1.cells (g := g) hg
  have hsh : (u = .slice none 0 0 ∧ d.len = 0) ∨ ∃ g cap, u = .slice (some ⟨g, 0, none⟩) d.len cap ∧ d.len ≤ cap := by
    rcases h1.2 with h | ⟨g, cap, cur, h, _, _, hl, _⟩
    · exact .inl h
    · exact .inr ⟨g, cap, h, hl⟩
  rcases hsh with ⟨rfl, hn⟩ | ⟨g, cap, rfl, hl⟩
  · exact ⟨none, 0, by rw [hn], by omega, fun hp => by omega⟩
  · refine ⟨_, cap, rfl, hl, fun _ => ⟨_, rfl, ho g rfl, fun j c hj => ?_⟩⟩
    obtain ⟨x, hx1, hx2⟩ := h2 j c hj
    exact ⟨x, hcell rfl j x hx1, hx2.chg (Chg.refl (fun _ => False) w) (fun _ _ h => h) hp⟩

/-! ### The relation -/
structure Gm where
  rv : Nat → Value
  wd : Nat → Nat
  ln : Nat → Nat
  bb : Nat → Nat
  G : Nat → Prop
  dr : Nat → Prop
  db : Nat → Prop
def PG (g : Gm) (base : Nat) (fr : Bool) (j : Nat) : Prop := g.G j ∧ (fr = true → base ≤ j)
def CellRep (g : Gm) (base : Nat) (w : World) (u : Value) : Cell → Prop
  | .sc v => u = v
  | .ro fr d => RowRep w (PG g base fr) u d
  | .ref i => g.dr i ∧ u = g.rv i
def V1Rep (g : Gm) (base : Nat) (w : World) (u : Value) : V1 → Prop
  | .cell c => CellRep g base w u c
  | .agg cs => ∃ us : List Value, u = .agg us.toArray ∧ All2 (CellRep g base w) us cs
def AVRep (g : Gm) (base : Nat) (w : World) (u : Value) : AV → Prop
  | .v x => V1Rep g base w u x
  | .tup vs => ∃ us : List Value, u = .tuple us.toArray ∧ All2 (V1Rep g base w) us vs
  | .bx b off => g.db b ∧ u = .pointer (some ⟨g.bb b, off, none⟩)
  | .pe fr cs => ∃ ad, u = .pointer (some ad) ∧ PG g base fr ad.block ∧ ∀ j c, cs[j]? = some c → ∃ x, w.cell? (ad.add j) = some x ∧ DRep w (PG g base fr) x c
  | .pr i e off => g.dr i ∧ e < g.ln i ∧ ∃ ad len cap, g.rv i = .slice (some ad) len cap ∧ u = .pointer (some (ad.add (e * g.wd i + off))) ∧ ad.spot = none
  | .vw i lo hi => g.dr i ∧ lo ≤ hi ∧ hi ≤ g.ln i ∧ ∃ A len cap, g.rv i = .slice A len cap ∧ u = .slice (if cap = lo then A else A.map (·.add (lo * g.wd i))) (hi - lo) (cap - lo)

theorem PG.mono {g g' : Gm} {base : Nat} {fr : Bool} (h : ∀ j, g.G j → g'.G j) {j : Nat} (hp : PG g base fr j) : PG g' base fr j := ⟨h j hp.1, hp.2⟩
/-- The ghost grows. -/
structure Gm.le (g g' : Gm) : Prop where
  rv : ∀ i, g.dr i → g'.rv i = g.rv i
  wd : ∀ i, g.dr i → g'.wd i = g.wd i
  ln : ∀ i, g.dr i → g'.ln i = g.ln i
  bb : ∀ i, g.db i → g'.bb i = g.bb i
  G : ∀ j, g.G j → g'.G j
  dr : ∀ i, g.dr i → g'.dr i
  db : ∀ i, g.db i → g'.db i
theorem Gm.le_refl (g : Gm) : g.le g := ⟨fun _ _ => rfl, fun _ _ => rfl, fun _ _ => rfl, fun _ _ => rfl, fun _ h => h, fun _ h => h, fun _ h => h⟩
section
variable {X : Nat → Prop} {w w' : World} {g g' : Gm} {base : Nat}
theorem CellRep.chg (h : Chg X w w') (hx : ∀ j, g.G j → ¬ X j) (hg : g.le g') {u : Value} {c : Cell} (hr : CellRep g base w u c) : CellRep g' base w' u c := by
  cases c with
  | sc v => exact hr
  | ro fr d => exact RowRep.chg h (fun j hj => hx j hj.1) (fun j hj => hj.mono hg.G) hr
  | ref i => exact ⟨hg.dr i hr.1, hr.2.trans (hg.rv i hr.1).symm⟩
theorem V1Rep.chg (h : Chg X w w') (hx : ∀ j, g.G j → ¬ X j) (hg : g.le g') {u : Value} {c : V1} (hr : V1Rep g base w u c) : V1Rep g' base w' u c := by
  cases c with
  | cell c => exact CellRep.chg h hx hg hr
  | agg cs => obtain ⟨us, h1, h2⟩ := hr; exact ⟨us, h1, h2.imp fun _ _ h' => CellRep.chg h hx hg h'⟩
theorem AVRep.chg (h : Chg X w w') (hx : ∀ j, g.G j → ¬ X j) (hg : g.le g') {u : Value} {c : AV} (hr : AVRep g base w u c) : AVRep g' base w' u c := by
  cases c with
  | v x => exact V1Rep.chg h hx hg hr
  | tup vs => obtain ⟨us, h1, h2⟩ := hr; exact ⟨us, h1, h2.imp fun _ _ h' => V1Rep.chg h hx hg h'⟩
  | bx b off => exact ⟨hg.db b hr.1, by rw [hg.bb b hr.1]; exact hr.2⟩
  | pe fr cs =>
    obtain ⟨ad, h1, h2, h3⟩ := hr
    refine ⟨ad, h1, h2.mono hg.G, fun j c hj => ?_⟩
    obtain ⟨x, hx1, hx2⟩ := h3 j c hj
    exact ⟨x, h.cell hx1 (by rw [add_block]; exact hx _ h2.1), hx2.chg h (fun j hj => hx j hj.1) (fun j hj => hj.mono hg.G)⟩
  | pr i e off =>
    obtain ⟨h1, h0, ad, len, cap, h2, h3⟩ := hr
    exact ⟨hg.dr i h1, by rw [hg.ln i h1]; exact h0, ad, len, cap, by rw [hg.rv i h1]; exact h2, by rw [hg.wd i h1]; exact h3⟩
  | vw i lo hi =>
    obtain ⟨h1, h0, h3, A, len, cap, h2, h4⟩ := hr
    exact ⟨hg.dr i h1, h0, by rw [hg.ln i h1]; exact h3, A, len, cap, by rw [hg.rv i h1]; exact h2, by rw [hg.wd i h1]; exact h4⟩
end

/-- Where the state's frame stands: the kinds' element types; blocks from 'base' on are the call's own; pb: old blocks that are lent to be written. -/
structure Fr where
  ek : List (TypeId × RK)
  base : Nat
  pb : List Nat
  w0 : World
  nt : Nat
  A : Nat → Prop
def Fr.M (F : Fr) (j : Nat) : Prop := j ∈ F.pb
def RowOk (F : Fr) (g : Gm) (w : World) (i : Nat) (own fr : Bool) (d : Row) : Prop :=
  g.dr i ∧ (g.wd i = d.wd ∧ g.ln i = d.len) ∧ match own with
  | true => (∃ e, ekOf F.ek d.kind = some e ∧ OwnRep w (PG g F.base fr) e (g.rv i) d) ∧ ∀ b, (g.rv i).ownBlock = some b → ¬ g.G b ∧ (F.base ≤ b ∨ F.M b) ∧ (fr = true → F.base ≤ b)
  | false => RowRep w (PG g F.base fr) (g.rv i) d
def BoxOk (F : Fr) (g : Gm) (w : World) (b : Nat) (cs : List Cell) : Prop :=
  g.db b ∧ ∃ (us : List Value) (ty : TypeId), w.heap[g.bb b]? = some (.cells us.toArray ty (0, 0)) ∧ All2 (CellRep g F.base w) us cs ∧ ¬ g.G (g.bb b) ∧ (F.base ≤ g.bb b ∨ F.M (g.bb b))
structure Sat (F : Fr) (σ : St) (a : Act) (w : World) (g : Gm) : Prop where
  chg : Chg F.M F.w0 w
  base : F.base = F.w0.heap.size
  defs : a.defers = []
  nts : a.tmps.size = F.nt
  tmp : ∀ t x, get σ (.t t) = .av x → AVRep g F.base w (a.tmps.getD t undef) x
  row : ∀ i own fr d, get σ (.r i) = .row own fr d → RowOk F g w i own fr d
  box : ∀ b cs, get σ (.b b) = .box cs → BoxOk F g w b cs
  dr : ∀ i, g.dr i → get σ (.r i) ≠ .no ∧ ∃ A l c, g.rv i = .slice A l c
  db : ∀ i, g.db i → get σ (.b i) ≠ .no
  gb : ∀ j, g.G j → j < w.heap.size
  sepR : ∀ i j fr d fr' d' b, i ≠ j → get σ (.r i) = .row true fr d → get σ (.r j) = .row true fr' d' → (g.rv i).ownBlock = some b → (g.rv j).ownBlock ≠ some b
  sepB : ∀ b c cs cs', b ≠ c → get σ (.b b) = .box cs → get σ (.b c) = .box cs' → g.bb b ≠ g.bb c
  sepRB : ∀ i b fr d cs, get σ (.r i) = .row true fr d → get σ (.b b) = .box cs → (g.rv i).ownBlock ≠ some (g.bb b)
  pb : ∀ (j n : Nat), F.pb[j]? = some n → g.db j ∧ g.bb j = n
  ga : ∀ j, g.G j → F.A j ∨ F.M j ∨ F.base ≤ j
/-- A block that is the call's to write, and none of those that the state speaks of. -/
structure Priv (F : Fr) (σ : St) (g : Gm) (b : Nat) : Prop where
  ng : ¬ g.G b
  row : ∀ i fr d, get σ (.r i) = .row true fr d → (g.rv i).ownBlock ≠ some b
  box : ∀ c cs, get σ (.b c) = .box cs → g.bb c ≠ b
  base : F.base ≤ b ∨ F.M b
theorem Sat.ext {F : Fr} {σ τ : St} {a : Act} {w : World} {g : Gm} (h : Sat F σ a w g) (he : ∀ l, get τ l = get σ l) : Sat F τ a w g := by
  obtain ⟨h1, h2, h3, h4, h5, h6, h7, h8, h9, h10, h11, h12, h13, h14, h15⟩ := h
  exact ⟨h1, h2, h3, h4, fun t x hx => h5 t x (by rw [← he]; exact hx), fun i o f d hx => h6 i o f d (by rw [← he]; exact hx), fun b cs hx => h7 b cs (by rw [← he]; exact hx),
    fun i hi => by rw [he]; exact h8 i hi, fun i hi => by rw [he]; exact h9 i hi, h10,
    fun i j f d f' d' b hij hi hj => h11 i j f d f' d' b hij (by rw [← he]; exact hi) (by rw [← he]; exact hj),
    fun b c cs cs' hbc hb hc => h12 b c cs cs' hbc (by rw [← he]; exact hb) (by rw [← he]; exact hc),
    fun i b f d cs hi hb => h13 i b f d cs (by rw [← he]; exact hi) (by rw [← he]; exact hb), h14, h15⟩
/-- Fewer slots: weaker. -/
theorem Sat.weaken {F : Fr} {σ τ : St} {a : Act} {w : World} {g : Gm} (h : Sat F σ a w g) (ht : ∀ t x, get τ (.t t) = .av x → get σ (.t t) = .av x) (hr : ∀ i, get τ (.r i) = get σ (.r i)) (hb : ∀ i, get τ (.b i) = get σ (.b i)) : Sat F τ a w g := by
  obtain ⟨h1, h2, h3, h4, h5, h6, h7, h8, h9, h10, h11, h12, h13, h14, h15⟩ := h
  exact ⟨h1, h2, h3, h4, fun t x hx => h5 t x (ht t x hx), fun i o f d hx => h6 i o f d (by rw [← hr]; exact hx), fun b cs hx => h7 b cs (by rw [← hb]; exact hx),
    fun i hi => by rw [hr]; exact h8 i hi, fun i hi => by rw [hb]; exact h9 i hi, h10,
    fun i j f d f' d' b hij hi hj => h11 i j f d f' d' b hij (by rw [← hr]; exact hi) (by rw [← hr]; exact hj),
    fun b c cs cs' hbc hb1 hc => h12 b c cs cs' hbc (by rw [← hb]; exact hb1) (by rw [← hb]; exact hc),
    fun i b f d cs hi hb1 => h13 i b f d cs (by rw [← hr]; exact hi) (by rw [← hb]; exact hb1), h14, h15⟩
section
variable {F : Fr} {σ : St} {a : Act} {w w' : World} {g : Gm}
theorem Sat.world {X : Nat → Prop} (h : Sat F σ a w g) (hc : Chg X w w') (hX : ∀ j, j < w.heap.size → X j → Priv F σ g j) : Sat F σ a w' g := by
  have hxg : ∀ j, g.G j → ¬ X j := fun j hj hx => (hX j (h.gb j hj) hx).ng hj
  have hlt : ∀ i own fr d b, get σ (.r i) = .row own fr d → own = true → (g.rv i).ownBlock = some b → b < w.heap.size := fun i own fr d b hi ho hb => by
    subst ho
    obtain ⟨_, _, ⟨e, _, cs, ho, _⟩, _⟩ := h.row i _ _ _ hi
    exact (ho.lt b hb).2
  refine ⟨⟨hc.os.trans h.chg.os, hc.tape.trans h.chg.tape, hc.output.trans h.chg.output, Nat.le_trans h.chg.size hc.size, fun j hj hm => ?_⟩, h.base, h.defs, h.nts, fun t x hx => (h.tmp t x hx).chg hc hxg g.le_refl, ?_, ?_, h.dr, h.db, fun j hj => Nat.lt_of_lt_of_le (h.gb j hj) hc.size, h.sepR, h.sepB, h.sepRB, h.pb, h.ga⟩
  · have hj' := Nat.lt_of_lt_of_le hj h.chg.size
    refine (hc.block j hj' fun hx => ?_).trans (h.chg.block j hj hm)
    rcases (hX j hj' hx).base with hb | hb
    · have := h.base; omega
    · exact hm hb
  · intro i own fr d hi
    obtain ⟨h1, h2, h3⟩ := h.row i own fr d hi
    refine ⟨h1, h2, ?_⟩
    cases own with
    | true =>
      obtain ⟨⟨e, he, ho⟩, hb⟩ := h3
      refine ⟨⟨e, he, ho.chg hc (fun j hj => hxg j hj.1) (fun j hj => hj) fun j hj hx => ?_⟩, hb⟩
      exact (hX j (hlt i true fr d j hi rfl hj) hx).row i fr d hi hj
    | false => exact RowRep.chg hc (fun j hj => hxg j hj.1) (fun j hj => hj) h3
  · intro b cs hb
    obtain ⟨h1, us, ty, h2, h3, h4⟩ := h.box b cs hb
    refine ⟨h1, us, ty, ?_, h3.imp fun _ _ h' => h'.chg hc hxg g.le_refl, h4⟩
    have hl := (Array.getElem?_eq_some_iff.1 h2).1
    rw [hc.block _ hl fun hx => (hX _ hl hx).box b cs hb rfl]
    exact h2
theorem Sat.fresh (h : Sat F σ a w g) {b : Nat} (hb : w.heap.size ≤ b) : Priv F σ g b := by
  refine ⟨fun hg => by have := h.gb b hg; omega, fun i fr d hi ho => ?_, fun c cs hc he => ?_, .inl ?_⟩
  · obtain ⟨_, _, ⟨e, _, cs, ho', _⟩, _⟩ := h.row i _ _ _ hi
    have := (ho'.lt b ho).2
    omega
  · obtain ⟨_, us, ty, h2, _⟩ := h.box c cs hc
    have := (Array.getElem?_eq_some_iff.1 h2).1
    omega
  · have := h.base; have := h.chg.size; omega
theorem Sat.own_lt (h : Sat F σ a w g) {i : Nat} {fr : Bool} {d : Row} (hi : get σ (.r i) = .row true fr d) {b : Nat} (hb : (g.rv i).ownBlock = some b) : b < w.heap.size := by
  obtain ⟨_, _, ⟨e, _, cs, ho', _⟩, _⟩ := h.row i _ _ _ hi
  exact (ho'.lt b hb).2
theorem Loc.r_ne {i j : Nat} (h : i ≠ j) : Loc.r i ≠ Loc.r j := fun e => h (by injection e)
theorem Loc.b_ne {i j : Nat} (h : i ≠ j) : Loc.b i ≠ Loc.b j := fun e => h (by injection e)
theorem Loc.t_ne {i j : Nat} (h : i ≠ j) : Loc.t i ≠ Loc.t j := fun e => h (by injection e)
/-- A row of one's own is given up. -/
theorem Sat.kill (h : Sat F σ a w g) {i : Nat} {fr : Bool} {d : Row} (hi : get σ (.r i) = .row true fr d) : Sat F ((.r i, .dead) :: σ) a w g ∧ ∀ b, (g.rv i).ownBlock = some b → Priv F ((.r i, .dead) :: σ) g b := by
  have hr : ∀ j own fr' d', get ((.r i, .dead) :: σ) (.r j) = .row own fr' d' → j ≠ i ∧ get σ (.r j) = .row own fr' d' := fun j own fr' d' hj => by
    by_cases e : j = i
    · subst e; rw [get_same] at hj; cases hj
    · rw [get_other (Loc.r_ne e)] at hj; exact ⟨e, hj⟩
  have ht : ∀ t, get ((.r i, .dead) :: σ) (.t t) = get σ (.t t) := fun t => get_other (by simp) _ _
  have hb : ∀ t, get ((.r i, .dead) :: σ) (.b t) = get σ (.b t) := fun t => get_other (by simp) _ _
  refine ⟨⟨h.chg, h.base, h.defs, h.nts, fun t x hx => h.tmp t x (by rw [← ht]; exact hx), fun j own fr' d' hj => h.row j own fr' d' (hr _ _ _ _ hj).2, fun b cs hb' => h.box b cs (by rw [← hb]; exact hb'), fun j hj => ?_, fun j hj => by rw [hb]; exact h.db j hj, h.gb,
    fun j k f1 d1 f2 d2 b hjk hj hk => h.sepR j k f1 d1 f2 d2 b hjk (hr _ _ _ _ hj).2 (hr _ _ _ _ hk).2, fun b c cs cs' hbc h1 h2 => h.sepB b c cs cs' hbc (by rw [← hb]; exact h1) (by rw [← hb]; exact h2),
    fun j b f1 d1 cs hj h2 => h.sepRB j b f1 d1 cs (hr _ _ _ _ hj).2 (by rw [← hb]; exact h2), h.pb, h.ga⟩, fun b hob => ?_⟩
  · by_cases e : j = i
    · subst e; rw [get_same]; exact ⟨by simp, (h.dr j hj).2⟩
    · rw [get_other (Loc.r_ne e)]; exact h.dr j hj
  · obtain ⟨_, _, _, h3⟩ := h.row i _ _ _ hi
    obtain ⟨h4, h5, _⟩ := h3 b hob
    exact ⟨h4, fun j f1 d1 hj => fun e => h.sepR i j fr d f1 d1 b (Ne.symm (hr _ _ _ _ hj).1) hi (hr _ _ _ _ hj).2 hob e, fun c cs hc e => h.sepRB i c fr d cs hi (by rw [← hb]; exact hc) (by rw [hob, e]), h5⟩
def Gm.setR (g : Gm) (id : Nat) (v : Value) (d : Row) : Gm := { g with rv := fun j => if j = id then v else g.rv j, wd := fun j => if j = id then d.wd else g.wd j, ln := fun j => if j = id then d.len else g.ln j, dr := fun j => g.dr j ∨ j = id }
theorem Gm.setR_le (g : Gm) {id : Nat} (h : ¬ g.dr id) (v : Value) (d : Row) : g.le (g.setR id v d) :=
  ⟨fun i hi => if_neg fun e : i = id => h (by rw [← e]; exact hi), fun i hi => if_neg fun e : i = id => h (by rw [← e]; exact hi), fun i hi => if_neg fun e : i = id => h (by rw [← e]; exact hi), fun _ _ => rfl, fun _ h => h, fun _ h => .inl h, fun _ h => h⟩
theorem PG.setR {g : Gm} {id : Nat} {v : Value} {d : Row} {base : Nat} {fr : Bool} {j : Nat} (h : PG g base fr j) : PG (g.setR id v d) base fr j := h
/-- A new row of one's own. -/
theorem Sat.newRow (h : Sat F σ a w g) {id : Nat} (hid : get σ (.r id) = .no) {fr : Bool} {d : Row} {e : TypeId} {v : Value} (he : ekOf F.ek d.kind = some e) (ho : OwnRep w (PG g F.base fr) e v d)
    (hb : ∀ b, v.ownBlock = some b → Priv F σ g b ∧ (fr = true → F.base ≤ b)) : Sat F ((.r id, .row true fr d) :: σ) a w (g.setR id v d) := by
  have hnd : ¬ g.dr id := fun hd => (h.dr id hd).1 hid
  have hsl : ∃ A l c, v = .slice A l c := by
    obtain ⟨cs, ho1, _⟩ := ho
    rcases ho1.2 with ⟨h, _⟩ | ⟨g', cap, cur, h, _⟩
    · exact ⟨_, _, _, h⟩
    · exact ⟨_, _, _, h⟩
  have hle := g.setR_le hnd v d
  have hng : ∀ j, g.G j → ¬ (fun _ : Nat => False) j := fun _ _ h => h
  have hr : ∀ j own fr' d', get ((.r id, .row true fr d) :: σ) (.r j) = .row own fr' d' → (j = id ∧ own = true ∧ fr' = fr ∧ d' = d) ∨ (j ≠ id ∧ get σ (.r j) = .row own fr' d') := fun j own fr' d' hj => by
    by_cases e : j = id
    · subst e; rw [get_same] at hj; cases hj; exact .inl ⟨rfl, rfl, rfl, rfl⟩
    · rw [get_other (Loc.r_ne e)] at hj; exact .inr ⟨e, hj⟩
  have ht : ∀ t, get ((.r id, .row true fr d) :: σ) (.t t) = get σ (.t t) := fun t => get_other (by simp) _ _
  have hbx : ∀ t, get ((.r id, .row true fr d) :: σ) (.b t) = get σ (.b t) := fun t => get_other (by simp) _ _
  have hrid : (g.setR id v d).rv id = v := if_pos rfl
  have hro : ∀ j, j ≠ id → (g.setR id v d).rv j = g.rv j := fun j hj => if_neg hj
  refine ⟨h.chg, h.base, h.defs, h.nts, fun t x hx => (h.tmp t x (by rw [← ht]; exact hx)).chg (Chg.refl _ w) hng hle, ?_, ?_, ?_, fun j hj => by rw [hbx]; exact h.db j hj, h.gb, ?_, ?_, ?_, h.pb, h.ga⟩
  · intro j own fr' d' hj
    rcases hr j own fr' d' hj with ⟨rfl, rfl, rfl, rfl⟩ | ⟨hne, hj'⟩
    · refine ⟨.inr rfl, ⟨if_pos rfl, if_pos rfl⟩, ⟨e, he, by rw [hrid]; exact ho⟩, fun b hb' => ?_⟩
      rw [hrid] at hb'
      exact ⟨(hb b hb').1.ng, (hb b hb').1.base, (hb b hb').2⟩
    · obtain ⟨h1, h2, h3⟩ := h.row j own fr' d' hj'
      refine ⟨.inl h1, ⟨(if_neg hne).trans h2.1, (if_neg hne).trans h2.2⟩, ?_⟩
      rw [hro j hne]
      exact h3
  · intro b cs hb'
    obtain ⟨h1, us, ty, h2, h3, h4⟩ := h.box b cs (by rw [← hbx]; exact hb')
    exact ⟨h1, us, ty, h2, h3.imp fun _ _ h' => h'.chg (Chg.refl _ w) hng hle, h4⟩
  · intro j hj
    by_cases e : j = id
    · subst e; rw [get_same, hrid]; exact ⟨by simp, hsl⟩
    · rw [get_other (Loc.r_ne e), hro j e]; exact h.dr j (hj.resolve_right e)
  · intro i j f1 d1 f2 d2 b hij hi hj hob
    rcases hr i _ _ _ hi with ⟨rfl, _, _, _⟩ | ⟨hi1, hi2⟩
    · rcases hr j _ _ _ hj with ⟨rfl, _, _, _⟩ | ⟨hj1, hj2⟩
      · exact absurd rfl hij
      · rw [hro j hj1]; rw [hrid] at hob; exact (hb b hob).1.row j _ _ hj2
    · rw [hro i hi1] at hob
      rcases hr j _ _ _ hj with ⟨rfl, _, _, _⟩ | ⟨hj1, hj2⟩
      · rw [hrid]; exact fun e => (hb b e).1.row i _ _ hi2 hob
      · rw [hro j hj1]; exact h.sepR i j _ _ _ _ b hij hi2 hj2 hob
  · intro b c cs cs' hbc h1 h2
    exact h.sepB b c cs cs' hbc (by rw [← hbx]; exact h1) (by rw [← hbx]; exact h2)
  · intro i b f1 d1 cs hi h2
    rcases hr i _ _ _ hi with ⟨rfl, _, _, _⟩ | ⟨hi1, hi2⟩
    · rw [hrid]; exact fun e => (hb _ e).1.box b cs (by rw [← hbx]; exact h2) rfl
    · rw [hro i hi1]; exact h.sepRB i b _ _ cs hi2 (by rw [← hbx]; exact h2)
/-- A row that was given up stands again, its block the same. -/
theorem Sat.reRow (h : Sat F σ a w g) {i : Nat} (hdr : g.dr i) {fr : Bool} {d : Row} {e : TypeId} (hw : g.wd i = d.wd) (hl : g.ln i = d.len) (he : ekOf F.ek d.kind = some e) (ho : OwnRep w (PG g F.base fr) e (g.rv i) d)
    (hp : ∀ b, (g.rv i).ownBlock = some b → Priv F σ g b ∧ (fr = true → F.base ≤ b)) : Sat F ((.r i, .row true fr d) :: σ) a w g := by
  have hr : ∀ j own fr2 d2, get ((.r i, .row true fr d) :: σ) (.r j) = .row own fr2 d2 → (j = i ∧ own = true ∧ fr2 = fr ∧ d2 = d) ∨ (j ≠ i ∧ get σ (.r j) = .row own fr2 d2) := fun j own fr2 d2 hj => by
    by_cases e : j = i
    · subst e; rw [get_same] at hj; cases hj; exact .inl ⟨rfl, rfl, rfl, rfl⟩
    · rw [get_other (Loc.r_ne e)] at hj; exact .inr ⟨e, hj⟩
  have ht : ∀ t, get ((.r i, .row true fr d) :: σ) (.t t) = get σ (.t t) := fun t => get_other (by simp) _ _
  have hbx : ∀ t, get ((.r i, .row true fr d) :: σ) (.b t) = get σ (.b t) := fun t => get_other (by simp) _ _
  refine ⟨h.chg, h.base, h.defs, h.nts, fun t x hx => h.tmp t x (by rw [← ht]; exact hx), ?_, fun b cs hb => h.box b cs (by rw [← hbx]; exact hb), ?_, fun j hj => by rw [hbx]; exact h.db j hj, h.gb, ?_, fun b c cs cs' hbc h1 h2 => h.sepB b c cs cs' hbc (by rw [← hbx]; exact h1) (by rw [← hbx]; exact h2), ?_, h.pb, h.ga⟩
  · intro j own fr2 d2 hj
    rcases hr j _ _ _ hj with ⟨rfl, rfl, rfl, rfl⟩ | ⟨hne, hj'⟩
    · exact ⟨hdr, ⟨hw, hl⟩, ⟨e, he, ho⟩, fun b hb => ⟨(hp b hb).1.ng, (hp b hb).1.base, (hp b hb).2⟩⟩
    · exact h.row j own fr2 d2 hj'
  · intro j hj
    by_cases e : j = i
    · subst e; rw [get_same]; exact ⟨by simp, (h.dr j hj).2⟩
    · rw [get_other (Loc.r_ne e)]; exact h.dr j hj
  · intro j k f1 d1 f2 d2 b hjk hj hk' hob
    rcases hr j _ _ _ hj with ⟨rfl, _, _, _⟩ | ⟨hj1, hj2⟩
    · rcases hr k _ _ _ hk' with ⟨rfl, _, _, _⟩ | ⟨hk1', hk2'⟩
      · exact absurd rfl hjk
      · exact (hp b hob).1.row k _ _ hk2'
    · rcases hr k _ _ _ hk' with ⟨rfl, _, _, _⟩ | ⟨hk1', hk2'⟩
      · exact fun e => (hp b e).1.row j _ _ hj2 hob
      · exact h.sepR j k _ _ _ _ b hjk hj2 hk2' hob
  · intro j b f1 d1 cs hj hb
    rcases hr j _ _ _ hj with ⟨rfl, _, _, _⟩ | ⟨hj1, hj2⟩
    · exact fun e => (hp _ e).1.box b cs (by rw [← hbx]; exact hb) rfl
    · exact h.sepRB j b _ _ cs hj2 (by rw [← hbx]; exact hb)
theorem Priv.dead {b : Nat} (hp : Priv F σ g b) (i : Nat) : Priv F ((.r i, .dead) :: σ) g b := by
  refine ⟨hp.ng, fun j f1 d1 hj => ?_, fun c cs hc => hp.box c cs (by rw [get_other (by simp)] at hc; exact hc), hp.base⟩
  by_cases e : j = i
  · subst e; rw [get_same] at hj; cases hj
  · rw [get_other (Loc.r_ne e)] at hj; exact hp.row j f1 d1 hj
theorem Priv.again {i : Nat} {fr : Bool} {d : Row} {b : Nat} (hp : Priv F σ g b) (hb : (g.rv i).ownBlock ≠ some b) : Priv F ((.r i, .row true fr d) :: σ) g b := by
  refine ⟨hp.ng, fun j f1 d1 hj => ?_, fun c cs hc => hp.box c cs (by rw [get_other (by simp)] at hc; exact hc), hp.base⟩
  by_cases e : j = i
  · subst e; exact hb
  · rw [get_other (Loc.r_ne e)] at hj; exact hp.row j f1 d1 hj
/-- A row of one's own with other contents, its block the same. -/
theorem Sat.setRow {X : Nat → Prop} (h : Sat F σ a w g) (hc : Chg X w w') {i : Nat} {fr : Bool} {d : Row} (hi : get σ (.r i) = .row true fr d) (hX : ∀ j, X j → (g.rv i).ownBlock = some j)
    {fr' : Bool} {d' : Row} (hk : d'.kind = d.kind) (hw : d'.wd = d.wd) (hl : d'.len = d.len) (hfr : fr' = true → fr = true) (ho : ∀ e, ekOf F.ek d.kind = some e → OwnRep w (PG g F.base fr) e (g.rv i) d → OwnRep w' (PG g F.base fr') e (g.rv i) d') : Sat F ((.r i, .row true fr' d') :: σ) a w' g := by
  obtain ⟨hk1, hk2⟩ := h.kill hi
  have hs := hk1.world hc fun j hj hx => hk2 j (hX j hx)
  obtain ⟨hr1, hr2, ⟨e, he, hown⟩, hr4⟩ := h.row i _ _ _ hi
  have hr : ∀ j own fr2 d2, get ((.r i, .row true fr' d') :: σ) (.r j) = .row own fr2 d2 → (j = i ∧ own = true ∧ fr2 = fr' ∧ d2 = d') ∨ (j ≠ i ∧ get ((.r i, .dead) :: σ) (.r j) = .row own fr2 d2) := fun j own fr2 d2 hj => by
    by_cases e : j = i
    · subst e; rw [get_same] at hj; cases hj; exact .inl ⟨rfl, rfl, rfl, rfl⟩
    · rw [get_other (Loc.r_ne e)] at hj; exact .inr ⟨e, by rw [get_other (Loc.r_ne e)]; exact hj⟩
  have ht : ∀ t, get ((.r i, .row true fr' d') :: σ) (.t t) = get ((.r i, .dead) :: σ) (.t t) := fun t => by rw [get_other (by simp), get_other (by simp)]
  have hbx : ∀ t, get ((.r i, .row true fr' d') :: σ) (.b t) = get ((.r i, .dead) :: σ) (.b t) := fun t => by rw [get_other (by simp), get_other (by simp)]
  refine ⟨hs.chg, hs.base, hs.defs, hs.nts, fun t x hx => hs.tmp t x (by rw [← ht]; exact hx), ?_, fun b cs hb => hs.box b cs (by rw [← hbx]; exact hb), ?_, fun j hj => by rw [hbx]; exact hs.db j hj, hs.gb, ?_, fun b c cs cs' hbc h1 h2 => hs.sepB b c cs cs' hbc (by rw [← hbx]; exact h1) (by rw [← hbx]; exact h2), ?_, hs.pb, hs.ga⟩
  · intro j own fr2 d2 hj
    rcases hr j _ _ _ hj with ⟨rfl, rfl, rfl, rfl⟩ | ⟨hne, hj'⟩
    · exact ⟨hr1, ⟨by rw [hw]; exact hr2.1, by rw [hl]; exact hr2.2⟩, ⟨e, by rw [hk]; exact he, ho e he hown⟩, fun b hb => ⟨(hr4 b hb).1, (hr4 b hb).2.1, fun hf => (hr4 b hb).2.2 (hfr hf)⟩⟩
    · exact hs.row j own fr2 d2 hj'
  · intro j hj
    by_cases e : j = i
    · subst e; rw [get_same]; exact ⟨by simp, (h.dr j hj).2⟩
    · rw [get_other (Loc.r_ne e)]; exact h.dr j hj
  · intro j k f1 d1 f2 d2 b hjk hj hk' hob
    rcases hr j _ _ _ hj with ⟨rfl, _, _, _⟩ | ⟨hj1, hj2⟩
    · rcases hr k _ _ _ hk' with ⟨rfl, _, _, _⟩ | ⟨hk1', hk2'⟩
      · exact absurd rfl hjk
      · exact (hk2 b hob).row k _ _ hk2'
    · rcases hr k _ _ _ hk' with ⟨rfl, _, _, _⟩ | ⟨hk1', hk2'⟩
      · exact fun e => (hk2 b e).row j _ _ hj2 hob
      · exact hs.sepR j k _ _ _ _ b hjk hj2 hk2' hob
  · intro j b f1 d1 cs hj hb
    rcases hr j _ _ _ hj with ⟨rfl, _, _, _⟩ | ⟨hj1, hj2⟩
    · exact fun e => (hk2 _ e).box b cs (by rw [← hbx]; exact hb) rfl
    · exact hs.sepRB j b _ _ cs hj2 (by rw [← hbx]; exact hb)
def Gm.addG (g : Gm) (Y : Nat → Prop) : Gm := { g with G := fun j => g.G j ∨ Y j }
theorem Gm.addG_le (g : Gm) (Y : Nat → Prop) : g.le (g.addG Y) := ⟨fun _ _ => rfl, fun _ _ => rfl, fun _ _ => rfl, fun _ _ => rfl, fun _ h => .inl h, fun _ h => h, fun _ h => h⟩
/-- More blocks that are only read. -/
theorem Sat.moreG (h : Sat F σ a w g) {Y : Nat → Prop} (hY : ∀ j, Y j → j < w.heap.size ∧ (∀ i fr d, get σ (.r i) = .row true fr d → (g.rv i).ownBlock ≠ some j) ∧ (∀ c cs, get σ (.b c) = .box cs → g.bb c ≠ j) ∧ (F.A j ∨ F.M j ∨ F.base ≤ j)) : Sat F σ a w (g.addG Y) := by
  have hng : ∀ j, g.G j → ¬ (fun _ : Nat => False) j := fun _ _ h => h
  have hle := g.addG_le Y
  refine ⟨h.chg, h.base, h.defs, h.nts, fun t x hx => (h.tmp t x hx).chg (Chg.refl _ w) hng hle, ?_, ?_, h.dr, h.db, fun j hj => hj.elim (h.gb j) fun hy => (hY j hy).1, h.sepR, h.sepB, h.sepRB, h.pb, fun j hj => hj.elim (h.ga j) fun hy => (hY j hy).2.2.2⟩
  · intro i own fr d hi
    obtain ⟨h1, h2, h3⟩ := h.row i own fr d hi
    refine ⟨h1, h2, ?_⟩
    cases own with
    | true =>
      obtain ⟨⟨e, he, ho⟩, hb⟩ := h3
      exact ⟨⟨e, he, ho.chg (Chg.refl (fun _ => False) w) (fun _ _ h => h) (fun j hj => hj.mono hle.G) (fun _ _ h => h)⟩, fun b hb' => ⟨fun hg => hg.elim (hb b hb').1 fun hy => (hY b hy).2.1 i fr d hi hb', (hb b hb').2⟩⟩
    | false => exact RowRep.chg (Chg.refl (fun _ => False) w) (fun _ _ h => h) (fun j hj => hj.mono hle.G) h3
  · intro b cs hb
    obtain ⟨h1, us, ty, h2, h3, h4, h5⟩ := h.box b cs hb
    exact ⟨h1, us, ty, h2, h3.imp fun _ _ h' => h'.chg (Chg.refl _ w) hng hle, fun hg => hg.elim h4 fun hy => (hY _ hy).2.2.1 b cs hb rfl, h5⟩
/-- A row of one's own is only read from now on. -/
theorem Sat.freeze (h : Sat F σ a w g) {i : Nat} {fr : Bool} {d : Row} (hi : get σ (.r i) = .row true fr d) : ∃ g', Sat F ((.r i, .row false fr d) :: σ) a w g' ∧ g.le g' ∧ g'.rv = g.rv ∧ ∀ j, (g.rv i).ownBlock = some j → g'.G j := by
  obtain ⟨hk1, hk2⟩ := h.kill hi
  obtain ⟨hr1, hr2, ⟨e, he, hown⟩, hr4⟩ := h.row i _ _ _ hi
  have hs := hk1.moreG (Y := fun j => (g.rv i).ownBlock = some j) fun j hj => ⟨h.own_lt hi hj, (hk2 j hj).row, (hk2 j hj).box, .inr (hr4 j hj).2.1.symm⟩
  refine ⟨g.addG fun j => (g.rv i).ownBlock = some j, ?_, g.addG_le _, rfl, fun j hj => .inr hj⟩
  have hr : ∀ j own fr2 d2, get ((.r i, .row false fr d) :: σ) (.r j) = .row own fr2 d2 → (j = i ∧ own = false ∧ fr2 = fr ∧ d2 = d) ∨ (j ≠ i ∧ get ((.r i, .dead) :: σ) (.r j) = .row own fr2 d2) := fun j own fr2 d2 hj => by
    by_cases e : j = i
    · subst e; rw [get_same] at hj; cases hj; exact .inl ⟨rfl, rfl, rfl, rfl⟩
    · rw [get_other (Loc.r_ne e)] at hj; exact .inr ⟨e, by rw [get_other (Loc.r_ne e)]; exact hj⟩
  have ht : ∀ t, get ((.r i, .row false fr d) :: σ) (.t t) = get ((.r i, .dead) :: σ) (.t t) := fun t => by rw [get_other (by simp), get_other (by simp)]
  have hbx : ∀ t, get ((.r i, .row false fr d) :: σ) (.b t) = get ((.r i, .dead) :: σ) (.b t) := fun t => by rw [get_other (by simp), get_other (by simp)]
  have hown' : ∀ j fr2 d2, get ((.r i, .row false fr d) :: σ) (.r j) = .row true fr2 d2 → get ((.r i, .dead) :: σ) (.r j) = .row true fr2 d2 := fun j fr2 d2 hj => by
    rcases hr j _ _ _ hj with ⟨_, h, _⟩ | ⟨_, h⟩
    · cases h
    · exact h
  refine ⟨hs.chg, hs.base, hs.defs, hs.nts, fun t x hx => hs.tmp t x (by rw [← ht]; exact hx), ?_, fun b cs hb => hs.box b cs (by rw [← hbx]; exact hb), ?_, fun j hj => by rw [hbx]; exact hs.db j hj, hs.gb,
    fun j k f1 d1 f2 d2 b hjk hj hk => hs.sepR j k _ _ _ _ b hjk (hown' _ _ _ hj) (hown' _ _ _ hk), fun b c cs cs' hbc h1 h2 => hs.sepB b c cs cs' hbc (by rw [← hbx]; exact h1) (by rw [← hbx]; exact h2),
    fun j b f1 d1 cs hj hb => hs.sepRB j b _ _ cs (hown' _ _ _ hj) (by rw [← hbx]; exact hb), hs.pb, hs.ga⟩
  · intro j own fr2 d2 hj
    rcases hr j _ _ _ hj with ⟨rfl, rfl, rfl, rfl⟩ | ⟨hne, hj'⟩
    · exact ⟨hr1, hr2, hown.row (fun j hj => ⟨.inl hj.1, hj.2⟩) fun j hj => ⟨.inr hj, (hr4 j hj).2.2⟩⟩
    · exact hs.row j own fr2 d2 hj'
  · intro j hj
    by_cases e : j = i
    · subst e; rw [get_same]; exact ⟨by simp, (h.dr j hj).2⟩
    · rw [get_other (Loc.r_ne e)]; exact h.dr j hj
def Gm.setB (g : Gm) (id : Nat) (n : Nat) : Gm := { g with bb := fun j => if j = id then n else g.bb j, db := fun j => g.db j ∨ j = id }
theorem Gm.setB_le (g : Gm) {id : Nat} (h : ¬ g.db id) (n : Nat) : g.le (g.setB id n) :=
  ⟨fun _ _ => rfl, fun _ _ => rfl, fun _ _ => rfl, fun i hi => if_neg fun e : i = id => h (by rw [← e]; exact hi), fun _ h => h, fun _ h => h, fun _ h => .inl h⟩
/-- A new box. -/
theorem Sat.newBox (h : Sat F σ a w g) {id : Nat} (hid : get σ (.b id) = .no) {cs : List Cell} {us : List Value} {ty : TypeId} {n : Nat} (hn : w.heap[n]? = some (.cells us.toArray ty (0, 0))) (hus : All2 (CellRep g F.base w) us cs)
    (hb : Priv F σ g n) : Sat F ((.b id, .box cs) :: σ) a w (g.setB id n) := by
  have hnd : ¬ g.db id := fun hd => h.db id hd hid
  have hle := g.setB_le hnd n
  have hng : ∀ j, g.G j → ¬ (fun _ : Nat => False) j := fun _ _ h => h
  have hx : ∀ j cs', get ((.b id, .box cs) :: σ) (.b j) = .box cs' → (j = id ∧ cs' = cs) ∨ (j ≠ id ∧ get σ (.b j) = .box cs') := fun j cs' hj => by
    by_cases e : j = id
    · subst e; rw [get_same] at hj; cases hj; exact .inl ⟨rfl, rfl⟩
    · rw [get_other (Loc.b_ne e)] at hj; exact .inr ⟨e, hj⟩
  have ht : ∀ t, get ((.b id, .box cs) :: σ) (.t t) = get σ (.t t) := fun t => get_other (by simp) _ _
  have hr : ∀ t, get ((.b id, .box cs) :: σ) (.r t) = get σ (.r t) := fun t => get_other (by simp) _ _
  have hbid : (g.setB id n).bb id = n := if_pos rfl
  have hbo : ∀ j, j ≠ id → (g.setB id n).bb j = g.bb j := fun j hj => if_neg hj
  refine ⟨h.chg, h.base, h.defs, h.nts, fun t x hx => (h.tmp t x (by rw [← ht]; exact hx)).chg (Chg.refl _ w) hng hle, fun i own fr d hi => h.row i own fr d (by rw [← hr]; exact hi), ?_, fun i hi => by rw [hr]; exact h.dr i hi, ?_, h.gb,
    fun i j f1 d1 f2 d2 b hij hi hj => h.sepR i j _ _ _ _ b hij (by rw [← hr]; exact hi) (by rw [← hr]; exact hj), ?_, ?_, fun j m hj => ⟨.inl (h.pb j m hj).1, (hle.bb j (h.pb j m hj).1).trans (h.pb j m hj).2⟩, h.ga⟩
  · intro b cs' hb'
    rcases hx b cs' hb' with ⟨rfl, rfl⟩ | ⟨hne, hb''⟩
    · exact ⟨.inr rfl, us, ty, by rw [hbid]; exact hn, hus.imp fun _ _ h' => h'.chg (Chg.refl _ w) hng hle, by rw [hbid]; exact hb.ng, by rw [hbid]; exact hb.base⟩
    · obtain ⟨h1, us', ty', h2, h3, h4⟩ := h.box b cs' hb''
      refine ⟨.inl h1, us', ty', by rw [hbo b hne]; exact h2, h3.imp fun _ _ h' => h'.chg (Chg.refl _ w) hng hle, ?_⟩
      rw [hbo b hne]; exact h4
  · intro j hj
    by_cases e : j = id
    · subst e; rw [get_same]; simp
    · rw [get_other (Loc.b_ne e)]; exact h.db j (hj.resolve_right e)
  · intro b c cs1 cs2 hbc h1 h2
    rcases hx b _ h1 with ⟨rfl, _⟩ | ⟨hb1, hb2⟩
    · rcases hx c _ h2 with ⟨rfl, _⟩ | ⟨hc1, hc2⟩
      · exact absurd rfl hbc
      · rw [hbid, hbo c hc1]; exact fun e => hb.box c _ hc2 e.symm
    · rw [hbo b hb1]
      rcases hx c _ h2 with ⟨rfl, _⟩ | ⟨hc1, hc2⟩
      · rw [hbid]; exact hb.box b _ hb2
      · rw [hbo c hc1]; exact h.sepB b c _ _ hbc hb2 hc2
  · intro i b f1 d1 cs1 hi h2
    rcases hx b _ h2 with ⟨rfl, _⟩ | ⟨hb1, hb2⟩
    · rw [hbid]; exact hb.row i _ _ (by rw [← hr]; exact hi)
    · rw [hbo b hb1]; exact h.sepRB i b _ _ _ (by rw [← hr]; exact hi) hb2
/-- A box with other contents. -/
theorem Sat.setBox {X : Nat → Prop} (h : Sat F σ a w g) (hc : Chg X w w') {b : Nat} {cs : List Cell} (hb : get σ (.b b) = .box cs) (hX : ∀ j, X j → j = g.bb b) {cs' : List Cell} {us : List Value} {ty : TypeId}
    (hn : w'.heap[g.bb b]? = some (.cells us.toArray ty (0, 0))) (hus : All2 (CellRep g F.base w') us cs') : Sat F ((.b b, .box cs') :: σ) a w' g := by
  obtain ⟨hb1, us0, ty0, hb2, hb3, hb4, hb5⟩ := h.box b cs hb
  have hx : ∀ j cs2, get ((.b b, .box cs') :: σ) (.b j) = .box cs2 → (j = b ∧ cs2 = cs') ∨ (j ≠ b ∧ get σ (.b j) = .box cs2) := fun j cs2 hj => by
    by_cases e : j = b
    · subst e; rw [get_same] at hj; cases hj; exact .inl ⟨rfl, rfl⟩
    · rw [get_other (Loc.b_ne e)] at hj; exact .inr ⟨e, hj⟩
  have ht : ∀ t, get ((.b b, .box cs') :: σ) (.t t) = get σ (.t t) := fun t => get_other (by simp) _ _
  have hr : ∀ t, get ((.b b, .box cs') :: σ) (.r t) = get σ (.r t) := fun t => get_other (by simp) _ _
  have hxg : ∀ j, g.G j → ¬ X j := fun j hj hx => hb4 (hX j hx ▸ hj)
  refine ⟨⟨hc.os.trans h.chg.os, hc.tape.trans h.chg.tape, hc.output.trans h.chg.output, Nat.le_trans h.chg.size hc.size, fun j hj hm => ?_⟩, h.base, h.defs, h.nts, fun t x hx => (h.tmp t x (by rw [← ht]; exact hx)).chg hc hxg g.le_refl, ?_, ?_, fun i hi => by rw [hr]; exact h.dr i hi, ?_,
    fun j hj => Nat.lt_of_lt_of_le (h.gb j hj) hc.size, fun i j f1 d1 f2 d2 b hij hi hj => h.sepR i j _ _ _ _ b hij (by rw [← hr]; exact hi) (by rw [← hr]; exact hj), ?_, ?_, h.pb, h.ga⟩
  · have hj' := Nat.lt_of_lt_of_le hj h.chg.size
    refine (hc.block j hj' fun hx => ?_).trans (h.chg.block j hj hm)
    rcases hb5 with hb | hb
    · have := h.base; have := hX j hx; omega
    · exact hm (hX j hx ▸ hb)
  · intro i own fr d hi
    have hi' : get σ (.r i) = .row own fr d := by rw [← hr]; exact hi
    obtain ⟨h1, h2, h3⟩ := h.row i own fr d hi'
    refine ⟨h1, h2, ?_⟩
    cases own with
    | true =>
      obtain ⟨⟨e, he, ho⟩, hb'⟩ := h3
      exact ⟨⟨e, he, ho.chg hc (fun j hj => hxg j hj.1) (fun j hj => hj) fun j hj hx => h.sepRB i b fr d cs hi' hb (hX j hx ▸ hj)⟩, hb'⟩
    | false => exact RowRep.chg hc (fun j hj => hxg j hj.1) (fun j hj => hj) h3
  · intro j cs2 hj
    rcases hx j cs2 hj with ⟨rfl, rfl⟩ | ⟨hne, hj'⟩
    · exact ⟨hb1, us, ty, hn, hus, hb4, hb5⟩
    · obtain ⟨h1, us', ty', h2, h3, h4⟩ := h.box j cs2 hj'
      refine ⟨h1, us', ty', ?_, h3.imp fun _ _ h' => h'.chg hc hxg g.le_refl, h4⟩
      rw [hc.block _ (Array.getElem?_eq_some_iff.1 h2).1 fun hx => h.sepB j b _ _ hne hj' hb (hX _ hx)]
      exact h2
  · intro j hj
    by_cases e : j = b
    · subst e; rw [get_same]; simp
    · rw [get_other (Loc.b_ne e)]; exact h.db j hj
  · intro c c' cs1 cs2 hcc h1 h2
    have : ∀ j cs2, get ((.b b, .box cs') :: σ) (.b j) = .box cs2 → ∃ cs3, get σ (.b j) = .box cs3 := fun j cs2 hj => by
      rcases hx j _ hj with ⟨rfl, _⟩ | ⟨_, h⟩
      · exact ⟨_, hb⟩
      · exact ⟨_, h⟩
    obtain ⟨_, h1'⟩ := this _ _ h1
    obtain ⟨_, h2'⟩ := this _ _ h2
    exact h.sepB c c' _ _ hcc h1' h2'
  · intro i c f1 d1 cs1 hi h2
    rcases hx c _ h2 with ⟨rfl, _⟩ | ⟨_, h'⟩
    · exact h.sepRB i c _ _ _ (by rw [← hr]; exact hi) hb
    · exact h.sepRB i c _ _ _ (by rw [← hr]; exact hi) h'
/-- A box is set aside. -/
theorem Sat.killBox (h : Sat F σ a w g) {b : Nat} {cs : List Cell} (hb : get σ (.b b) = .box cs) : Sat F ((.b b, .dead) :: σ) a w g ∧ Priv F ((.b b, .dead) :: σ) g (g.bb b) := by
  have hx : ∀ j cs2, get ((.b b, .dead) :: σ) (.b j) = .box cs2 → j ≠ b ∧ get σ (.b j) = .box cs2 := fun j cs2 hj => by
    by_cases e : j = b
    · subst e; rw [get_same] at hj; cases hj
    · rw [get_other (Loc.b_ne e)] at hj; exact ⟨e, hj⟩
  have ht : ∀ t, get ((.b b, .dead) :: σ) (.t t) = get σ (.t t) := fun t => get_other (by simp) _ _
  have hr : ∀ t, get ((.b b, .dead) :: σ) (.r t) = get σ (.r t) := fun t => get_other (by simp) _ _
  refine ⟨⟨h.chg, h.base, h.defs, h.nts, fun t x hx => h.tmp t x (by rw [← ht]; exact hx), fun j own fr' d' hj => h.row j own fr' d' (by rw [← hr]; exact hj), fun c cs' hb' => h.box c cs' (hx _ _ hb').2, fun j hj => by rw [hr]; exact h.dr j hj, fun j hj => ?_, h.gb,
    fun j k f1 d1 f2 d2 b hjk hj hk => h.sepR j k f1 d1 f2 d2 b hjk (by rw [← hr]; exact hj) (by rw [← hr]; exact hk), fun b c cs cs' hbc h1 h2 => h.sepB b c cs cs' hbc (hx _ _ h1).2 (hx _ _ h2).2,
    fun j b f1 d1 cs hj h2 => h.sepRB j b f1 d1 cs (by rw [← hr]; exact hj) (hx _ _ h2).2, h.pb, h.ga⟩, ?_⟩
  · by_cases e : j = b
    · subst e; rw [get_same]; simp
    · rw [get_other (Loc.b_ne e)]; exact h.db j hj
  · obtain ⟨_, us, ty, _, _, h4, h5⟩ := h.box b cs hb
    exact ⟨h4, fun j f1 d1 hj => h.sepRB j b f1 d1 cs (by rw [← hr]; exact hj) hb, fun c cs2 hc e => h.sepB c b cs2 cs (hx _ _ hc).1 (hx _ _ hc).2 hb e, h5⟩
/-- And comes back. -/
theorem Sat.reBox (h : Sat F σ a w g) {b : Nat} (hd : g.db b) (hp : Priv F σ g (g.bb b)) {cs : List Cell} {us : List Value} {ty : TypeId} (hn : w.heap[g.bb b]? = some (.cells us.toArray ty (0, 0))) (hus : All2 (CellRep g F.base w) us cs) : Sat F ((.b b, .box cs) :: σ) a w g := by
  have hx : ∀ j cs2, get ((.b b, .box cs) :: σ) (.b j) = .box cs2 → (j = b ∧ cs2 = cs) ∨ (j ≠ b ∧ get σ (.b j) = .box cs2) := fun j cs2 hj => by
    by_cases e : j = b
    · subst e; rw [get_same] at hj; cases hj; exact .inl ⟨rfl, rfl⟩
    · rw [get_other (Loc.b_ne e)] at hj; exact .inr ⟨e, hj⟩
  have ht : ∀ t, get ((.b b, .box cs) :: σ) (.t t) = get σ (.t t) := fun t => get_other (by simp) _ _
  have hr : ∀ t, get ((.b b, .box cs) :: σ) (.r t) = get σ (.r t) := fun t => get_other (by simp) _ _
  refine ⟨h.chg, h.base, h.defs, h.nts, fun t x hx => h.tmp t x (by rw [← ht]; exact hx), fun j own fr' d' hj => h.row j own fr' d' (by rw [← hr]; exact hj), fun c cs' hc => ?_, fun j hj => by rw [hr]; exact h.dr j hj, fun j hj => ?_, h.gb,
    fun j k f1 d1 f2 d2 b hjk hj hk => h.sepR j k f1 d1 f2 d2 b hjk (by rw [← hr]; exact hj) (by rw [← hr]; exact hk), fun c c' cs1 cs2 hcc h1 h2 => ?_, fun j c f1 d1 cs1 hj h2 => ?_, h.pb, h.ga⟩
  · rcases hx c cs' hc with ⟨rfl, rfl⟩ | ⟨_, hc'⟩
    · exact ⟨hd, us, ty, hn, hus, hp.ng, hp.base⟩
    · exact h.box c cs' hc'
  · by_cases e : j = b
    · subst e; rw [get_same]; simp
    · rw [get_other (Loc.b_ne e)]; exact h.db j hj
  · rcases hx c _ h1 with ⟨rfl, _⟩ | ⟨_, h1'⟩
    · rcases hx c' _ h2 with ⟨rfl, _⟩ | ⟨_, h2'⟩
      · exact absurd rfl hcc
      · exact fun e => hp.box c' _ h2' e.symm
    · rcases hx c' _ h2 with ⟨rfl, _⟩ | ⟨_, h2'⟩
      · exact hp.box c _ h1'
      · exact h.sepB c c' _ _ hcc h1' h2'
  · rcases hx c _ h2 with ⟨rfl, _⟩ | ⟨_, h2'⟩
    · exact hp.row j f1 d1 (by rw [← hr]; exact hj)
    · exact h.sepRB j c f1 d1 _ (by rw [← hr]; exact hj) h2'
/-- A slot. -/
theorem Sat.dst (h : Sat F σ a w g) {dst : Option Tmp} (hd : dstOk F.nt dst = true) {v : Value} {x : AV} (hv : AVRep g F.base w v x) : Sat F ((wr dst x).foldl (fun σ w => w :: σ) σ) (a.put dst v) w g := by
  cases dst with
  | none => exact h
  | some d =>
    have hlt : d < a.tmps.size := by
      rw [h.nts]
      simpa [dstOk] using hd
    refine ⟨h.chg, h.base, h.defs, by simp [Act.put, h.nts], ?_, fun i own fr d' hi => h.row i own fr d' (by rw [← hi]; exact (get_other (by simp) _ _).symm), fun b cs hb => h.box b cs (by rw [← hb]; exact (get_other (by simp) _ _).symm),
      fun i hi => by show get ((.t d, .av x) :: σ) (.r i) ≠ .no ∧ _; rw [get_other (by simp)]; exact h.dr i hi, fun i hi => by show get ((.t d, .av x) :: σ) (.b i) ≠ .no; rw [get_other (by simp)]; exact h.db i hi, h.gb,
      fun i j f1 d1 f2 d2 b hij hi hj => h.sepR i j _ _ _ _ b hij (by rw [← hi]; exact (get_other (by simp) _ _).symm) (by rw [← hj]; exact (get_other (by simp) _ _).symm),
      fun b c cs cs' hbc h1 h2 => h.sepB b c _ _ hbc (by rw [← h1]; exact (get_other (by simp) _ _).symm) (by rw [← h2]; exact (get_other (by simp) _ _).symm),
      fun i b f1 d1 cs hi h2 => h.sepRB i b _ _ _ (by rw [← hi]; exact (get_other (by simp) _ _).symm) (by rw [← h2]; exact (get_other (by simp) _ _).symm), h.pb, h.ga⟩
    intro t y ht
    have ht' : get ((.t d, .av x) :: σ) (.t t) = .av y := ht
    by_cases e : t = d
    · subst e
      rw [get_same] at ht'
      cases ht'
      have : (a.put (some t) v).tmps.getD t undef = v := by simp [Act.put, hlt]
      rw [this]
      exact hv
    · rw [get_other (Loc.t_ne e)] at ht'
      have : (a.put (some d) v).tmps.getD t undef = a.tmps.getD t undef := by
        simp [Act.put, Array.getElem?_setIfInBounds_ne (Ne.symm e)]
      rw [this]
      exact h.tmp t y ht'
end
end Vx
