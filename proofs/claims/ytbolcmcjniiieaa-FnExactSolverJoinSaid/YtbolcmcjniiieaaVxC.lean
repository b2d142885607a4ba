/- Calls: what the oracle's answers mean, and the operation. Conditions: those that each theorem states. -/
import Derived.Test.YtbolcmcjniiieaaVxB
import Derived.Orders
import Derived.Tactics
import Derived.Deep.LoopGhost
set_option linter.unusedVariables false
set_option linter.unusedSimpArgs false
namespace Vx
open Go Go.RowKit

def SCRep (w : World) (A : Nat → Prop) (u : Value) : SC → Prop
  | .sc v => u = v
  | .row d => RowRep w A u d
/-- Arguments: A: the blocks that are read; B: those that the boxes lead to; bs: the boxes that are lent. -/
inductive ArgsRep (w : World) (A B : Nat → Prop) : List Value → List DA → List Nat → Prop where
  | nil : ArgsRep w A B [] [] []
  | c {u us x ds bs} (h : SCRep w A u x) (t : ArgsRep w A B us ds bs) : ArgsRep w A B (u :: us) (.c x :: ds) bs
  | agg {vs xs us ds bs} (h : All2 (SCRep w A) vs xs) (t : ArgsRep w A B us ds bs) : ArgsRep w A B (.agg vs.toArray :: us) (.agg xs :: ds) bs
  | bx {n ty vs xs us ds bs} (h0 : w.heap[n]? = some (.cells vs.toArray ty (0, 0))) (h : All2 (SCRep w B) vs xs) (hA : ¬ A n) (t : ArgsRep w A B us ds bs) : ArgsRep w A B (.pointer (some ⟨n, 0, none⟩) :: us) (.bx xs :: ds) (n :: bs)
def DARep (w : World) (R : Nat → Prop) (u : Value) : DA → Prop
  | .c x => SCRep w R u x
  | .agg xs => ∃ us : List Value, u = .agg us.toArray ∧ All2 (SCRep w R) us xs
  | .bx _ => False
def tupV : List Value → Value
  | [v] => v
  | vs => .tuple vs.toArray
def BxRep (w' : World) (R : Nat → Prop) (n : Nat) (cs : List SC) : Prop := ∃ (us : List Value) (ty : TypeId), w'.heap[n]? = some (.cells us.toArray ty (0, 0)) ∧ All2 (SCRep w' R) us cs
/-- Cells by flags: rows that are given away (their blocks), rows that are only read. -/
inductive SMix (ek : EK) (w : World) (A G' : Nat → Prop) : List Value → List SC → List RF → List RF → List Nat → Prop where
  | nil {os} : SMix ek w A G' [] [] os os []
  | sc {v us xs os os' bl} (t : SMix ek w A G' us xs os os' bl) : SMix ek w A G' (v :: us) (.sc v :: xs) os os' bl
  | ro {u us d xs os os' bl} (h : RowRep w G' u d) (t : SMix ek w A G' us xs os os' bl) : SMix ek w A G' (u :: us) (.row d :: xs) (.new :: os) os' bl
  | any {u us d xs os os' bl} (h : RowRep w (fun j => A j ∨ G' j) u d) (t : SMix ek w A G' us xs os os' bl) : SMix ek w A G' (u :: us) (.row d :: xs) (.any :: os) os' bl
  | own {u us d xs os os' bl ol e} (he : ekOf ek d.kind = some e) (h : OwnRep w (rg G' d ol) e u d) (hk : Obk w u d ol) (t : SMix ek w A G' us xs os os' bl) : SMix ek w A G' (u :: us) (.row d :: xs) (.own :: os) os' (ol ++ bl)
inductive DMix (ek : EK) (w : World) (A G' : Nat → Prop) : List Value → List DA → List RF → List Nat → Prop where
  | nil {os} : DMix ek w A G' [] [] os []
  | c {u us x ds os o1 b1 b2} (h : SMix ek w A G' [u] [x] os o1 b1) (t : DMix ek w A G' us ds o1 b2) : DMix ek w A G' (u :: us) (.c x :: ds) os (b1 ++ b2)
  | agg {vs us xs ds os o1 b1 b2} (h : SMix ek w A G' vs xs os o1 b1) (t : DMix ek w A G' us ds o1 b2) : DMix ek w A G' (.agg vs.toArray :: us) (.agg xs :: ds) os (b1 ++ b2)
theorem SMix.hasA {ek : EK} {w : World} {A G' : Nat → Prop} {us : List Value} {xs : List SC} {os os' : List RF} {bl : List Nat} (h : SMix ek w A G' us xs os os' bl) (ha : hasAny os' = true) : hasAny os = true := by
  induction h with
  | nil => exact ha
  | sc _ ih => exact ih ha
  | ro _ _ ih => exact ih ha
  | any _ _ _ => rfl
  | own _ _ _ _ ih => exact ih ha
/-- Results. G': new blocks that are only read, and such as boxes led to. -/
def ResRep (ek : EK) (w0 w' : World) (A G' : Nat → Prop) (m : Md) (v : Value) (res : List DA) : Prop :=
  match m, res with
  | .mix os, res => ∃ vs bl, v = tupV vs ∧ DMix ek w' A G' vs res os bl ∧ bl.Nodup ∧ ∀ b ∈ bl, w0.heap.size ≤ b ∧ ¬ G' b
  | _, [.bx cs] => ∃ n, v = .pointer (some ⟨n, 0, none⟩) ∧ w0.heap.size ≤ n ∧ ¬ G' n ∧ BxRep w' (fun j => A j ∨ G' j) n cs
  | .fresh, res => ∃ vs, v = tupV vs ∧ All2 (DARep w' G') vs res
  | .alias, res => ∃ vs, v = tupV vs ∧ All2 (DARep w' fun j => A j ∨ G' j) vs res
  | _, _ => False
def Post (ek : EK) (w0 : World) (A B : Nat → Prop) (bs : List Nat) (sp : Sp) (e : Ending) (w' : World) : Prop :=
  ∃ v, e = .returned v ∧ Chg (fun j => j ∈ bs) w0 w' ∧ ∃ G' : Nat → Prop, (∀ j, G' j → (w0.heap.size ≤ j ∧ j < w'.heap.size) ∨ B j) ∧ All2 (BxRep w' G') bs sp.outs ∧ ResRep ek w0 w' A G' sp.mode v sp.res
/-- Arguments with rows that are handed over; B: what those rows' elements lead to. -/
inductive GCells (ek : EK) (w : World) (B : Nat → Prop) : List Value → List SC → List (Value × List Nat) → Prop where
  | nil : GCells ek w B [] [] []
  | sc {v us xs os} (t : GCells ek w B us xs os) : GCells ek w B (v :: us) (.sc v :: xs) os
  | own {u us d xs os ol e} (he : ekOf ek d.kind = some e) (h : OwnRep w (rg B d ol) e u d) (hk : Obk w u d ol) (t : GCells ek w B us xs os) : GCells ek w B (u :: us) (.row d :: xs) ((u, ol) :: os)
inductive GArgs (ek : EK) (w : World) (B : Nat → Prop) : List Value → List DA → List (Value × List Nat) → Prop where
  | nil : GArgs ek w B [] [] []
  | c {u us x ds o1 o2} (h : GCells ek w B [u] [x] o1) (t : GArgs ek w B us ds o2) : GArgs ek w B (u :: us) (.c x :: ds) (o1 ++ o2)
  | agg {vs us xs ds o1 o2} (h : GCells ek w B vs xs o1) (t : GArgs ek w B us ds o2) : GArgs ek w B (.agg vs.toArray :: us) (.agg xs :: ds) (o1 ++ o2)
def WrRep (ek : EK) (w' : World) (B : Nat → Prop) (u : Value × List Nat) : SC → Prop
  | .sc _ => False
  | .row d => ∃ e, ekOf ek d.kind = some e ∧ OwnRep w' (rg B d u.2) e u.1 d ∧ Obk w' u.1 d u.2
/-- All blocks of rows that are handed over. -/
def obs (os : List (Value × List Nat)) : List Nat := os.flatMap (·.2)
def GPost (ek : EK) (w0 : World) (B : Nat → Prop) (os : List (Value × List Nat)) (sp : Sp) (e : Ending) (w' : World) : Prop :=
  ∃ v, e = .returned v ∧ Chg (fun j => ∃ u ∈ os, j ∈ u.2) w0 w' ∧ match sp.mode, sp.res, sp.outs with
    | .take, [.c (.row d)], [] => ∃ e ol, ekOf ek d.kind = some e ∧ OwnRep w' (rg B d ol) e v d ∧ Obk w' v d ol ∧ ∀ b, b ∈ ol → (∃ u ∈ os, b ∈ u.2) ∨ w0.heap.size ≤ b
    | .write, res, [ds] => (∃ vs, v = tupV vs ∧ All2 (DARep w' fun _ => False) vs res) ∧ All2 (WrRep ek w' B) os ds
    | _, _, _ => False
def Sound (P : Program) (ek : EK) (Φ : FuncId → List DA → Option Sp) : Prop :=
  ∀ f args sp, Φ f args = some sp → sp.pre = true → (∃ fn, P.funcs[f]? = some fn ∧ fn.body.isSome = true ∧ (fn.name == "runtime.NumGoroutine") = false) ∧
    (isGive sp.mode = false → ∀ w A B vals bs, ArgsRep w A B vals args bs → bs.Nodup → (∀ j, A j → j < w.heap.size) → (∀ j, B j → A j) → GlW ek w bs → Calls P f vals.toArray w (Post ek w A B bs sp)) ∧
    (isGive sp.mode = true → ∀ w B vals os, GArgs ek w B vals args os → (obs os).Nodup → (∀ b ∈ obs os, ¬ B b) → (∀ j, B j → j < w.heap.size) → Calls P f vals.toArray w (GPost ek w B os sp))

theorem SCRep.mono {w : World} {A B : Nat → Prop} {u : Value} {x : SC} (h : SCRep w A u x) (hp : ∀ j, A j → B j) : SCRep w B u x := by
  cases x with
  | sc v => exact h
  | row d => exact RowRep.chg (Chg.refl (fun _ => False) w) (fun _ _ h => h) hp h
theorem RowRep.sub {w : World} {Pi : Nat → Prop} {A : Option Addr} {cap : Nat} {d : Row} (h : RowRep w Pi (.slice A d.len cap) d) {lo hi : Nat} (h1 : lo ≤ hi) (h2 : hi ≤ d.len) :
    RowRep w Pi (.slice (if cap = lo then A else A.map (·.add (lo * d.wd))) (hi - lo) (cap - lo)) (d.sub lo hi) := by
  have hl := RowLook.sub h.look h1 h2
  obtain ⟨A', cap', e1, e2, e3⟩ := hl
  refine ⟨A', cap', e1, e2, fun hp => ?_⟩
  obtain ⟨ad, ha, hc⟩ := e3 hp
  refine ⟨ad, ha, ?_, hc⟩
  obtain ⟨A0, cap0, e4, e5, e6⟩ := h
  rw [len_sub d h2] at hp
  injection e4 with e4 _ e7
  subst e4; subst e7
  obtain ⟨ad0, rfl, hb, _⟩ := e6 (by omega)
  injection e1 with e1 _ _
  rw [if_neg (by omega), ha] at e1
  simp only [Option.map_some, Option.some.injEq] at e1
  rw [← e1, add_block]
  exact hb

section
variable {P : Program} {cx : Cx} {F : Fr} {σ : St} {a : Act} {w w' : World} {g : Gm}
/-- The blocks that a call may read. -/
def lentA (g : Gm) (l : List Nat) (j : Nat) : Prop := g.G j ∨ ∃ i ∈ l, j ∈ g.ob i
theorem Sat.rowRep (h : Sat F σ a w g) {i : Nat} {own fr : Bool} {d : Row} (hi : get σ (.r i) = .row own fr d) {l : List Nat} (hl : own = true → i ∈ l) : RowRep w (lentA g l) (g.rv i) d := by
  obtain ⟨_, _, h3⟩ := h.row i own fr d hi
  cases own with
  | true =>
    obtain ⟨⟨e, he, ho, hkb⟩, hb⟩ := h3
    exact ho.row (rg_all (fun j hj => .inl hj.1) fun j hj => .inr ⟨i, hl rfl, hj⟩) fun j hj => .inr ⟨i, hl rfl, hkb.out j hj⟩
  | false => exact RowRep.chg (Chg.refl (fun _ => False) w) (fun _ _ h => h) (fun j hj => .inl hj.1) h3
theorem cellSC_ok (h : Sat F σ a w g) {c : Cell} {u : Value} (hu : CellRep g F.N w u c) {x : SC} {l : List Nat} (hr : (cellSC c).run (get σ) = some (x, l)) :
    (∀ i ∈ l, ∃ fr d, get σ (.r i) = .row true fr d) ∧ ∀ L, (∀ i ∈ l, i ∈ L) → SCRep w (lentA g L) u x := by
  unfold cellSC at hr
  split at hr
  · have := run_ret hr; cases this
    exact ⟨fun i hi => (by cases hi), fun L _ => hu⟩
  · have := run_ret hr; cases this
    exact ⟨fun i hi => (by cases hi), fun L _ => RowRep.chg (Chg.refl (fun _ => False) w) (fun _ _ h => h) (fun j hj => .inl hj.1) hu⟩
  · rename_i i
    have hr' := run_ask hr
    split at hr'
    · rename_i own fr d hd
      obtain ⟨_, rfl⟩ := hu
      split at hr'
      · have := run_ret hr'; cases this
        exact ⟨fun i' hi => (by simp only [List.mem_singleton] at hi; subst hi; exact ⟨fr, d, hd⟩), fun L hL => h.rowRep hd fun _ => hL i (by simp)⟩
      · have := run_ret hr'; cases this
        exact ⟨fun i hi => (by cases hi), fun L _ => h.rowRep hd fun e => by cases e⟩
    · cases hr'
theorem cellsSC_ok (h : Sat F σ a w g) : ∀ {cs : List Cell} {us : List Value} (_ : All2 (CellRep g F.N w) us cs) {xs : List SC} {l : List Nat} (_ : (cellsSC cs).run (get σ) = some (xs, l)),
    (∀ i ∈ l, ∃ fr d, get σ (.r i) = .row true fr d) ∧ ∀ L, (∀ i ∈ l, i ∈ L) → All2 (SCRep w (lentA g L)) us xs
  | [], _, .nil, xs, l, hr => by
    have := run_ret hr; cases this
    exact ⟨fun i hi => (by cases hi), fun L _ => .nil⟩
  | c :: cs, _, .cons hu hus, xs, l, hr => by
    obtain ⟨⟨x, l1⟩, h1, hr⟩ := run_bind_some hr
    obtain ⟨⟨ys, l2⟩, h2, hr⟩ := run_bind_some hr
    have := run_ret hr; cases this
    obtain ⟨a1, b1⟩ := cellSC_ok h hu h1
    obtain ⟨a2, b2⟩ := cellsSC_ok h hus h2
    exact ⟨fun i hi => (List.mem_append.1 hi).elim (a1 i) (a2 i), fun L hL => .cons (b1 L fun i hi => hL i (List.mem_append_left _ hi)) (b2 L fun i hi => hL i (List.mem_append_right _ hi))⟩
def BoxLs (σ : St) (ls : List Nat) (b : Nat) : Prop := ∃ cs, get σ (.b b) = .box cs ∧ ∃ xs l, (cellsSC cs).run (get σ) = some (xs, l) ∧ ∀ i ∈ l, i ∈ ls
theorem BoxLs.mono {σ : St} {l l' : List Nat} {b : Nat} (h : BoxLs σ l b) (hl : ∀ i ∈ l, i ∈ l') : BoxLs σ l' b := let ⟨cs, h1, xs, m, h2, h3⟩ := h; ⟨cs, h1, xs, m, h2, fun i hi => hl i (h3 i hi)⟩
/-- The rows of a box lead to B. -/
def BoxIn (w : World) (σ : St) (g : Gm) (B : Nat → Prop) (b : Nat) : Prop := ∀ cs, get σ (.b b) = .box cs → ∀ (us : List Value) (xs : List SC) (l : List Nat) (ty : TypeId), w.heap[g.bb b]? = some (.cells us.toArray ty (0, 0)) → (cellsSC cs).run (get σ) = some (xs, l) → All2 (SCRep w B) us xs
theorem argsR_ok (h : Sat F σ a w g) : ∀ (l : List Operand) (ds : List DA) (ls bs : List Nat), (argsR l).run (get σ) = some (ds, ls, bs) →
    (∀ i ∈ ls, ∃ fr d, get σ (.r i) = .row true fr d) ∧ (∀ b ∈ bs, BoxLs σ ls b) ∧ ∀ L, (∀ i ∈ ls, i ∈ L) → (∀ i ∈ L, ∃ fr d, get σ (.r i) = .row true fr d) → ∀ B : Nat → Prop, (∀ b ∈ bs, BoxIn w σ g B b) → ArgsRep w (lentA g L) B (l.map a.eval) ds (bs.map g.bb)
  | [], ds, ls, bs, hr => by
    have := run_ret hr; cases this
    exact ⟨fun i hi => (by cases hi), fun i hi => (by cases hi), fun L _ _ _ _ => .nil⟩
  | x :: l, ds, ls, bs, hr => by
    obtain ⟨v, hv, hr⟩ := run_bind_some hr
    obtain ⟨⟨d1, l1, b1⟩, h1, hr⟩ := run_bind_some hr
    obtain ⟨⟨d2, l2, b2⟩, h2, hr⟩ := run_bind_some hr
    have := run_ret hr; cases this
    obtain ⟨p1, p2, p3⟩ := argsR_ok h l _ _ _ h2
    have hv' := opv_ok h hv
    have key : ∀ {q1 : List Nat} {qb : List Nat}, l1 = q1 → b1 = qb → (∀ i ∈ q1, ∃ fr d, get σ (.r i) = .row true fr d) → (∀ b ∈ qb, BoxLs σ l1 b) →
        (∀ L, (∀ i ∈ q1, i ∈ L) → (∀ i ∈ L, ∃ fr d, get σ (.r i) = .row true fr d) → ∀ B : Nat → Prop, (∀ b ∈ qb, BoxIn w σ g B b) → ∀ us ds' bs', ArgsRep w (lentA g L) B us ds' bs' → ArgsRep w (lentA g L) B (a.eval x :: us) (d1 :: ds') (qb.map g.bb ++ bs')) →
        (∀ i ∈ l1 ++ l2, ∃ fr d, get σ (.r i) = .row true fr d) ∧ (∀ b ∈ b1 ++ b2, BoxLs σ (l1 ++ l2) b) ∧ ∀ L, (∀ i ∈ l1 ++ l2, i ∈ L) → (∀ i ∈ L, ∃ fr d, get σ (.r i) = .row true fr d) → ∀ B : Nat → Prop, (∀ b ∈ b1 ++ b2, BoxIn w σ g B b) → ArgsRep w (lentA g L) B ((x :: l).map a.eval) (d1 :: d2) ((b1 ++ b2).map g.bb) := by
      intro q1 qb e1 e2 k1 k2 k3
      subst e1 e2
      refine ⟨fun i hi => (List.mem_append.1 hi).elim (k1 i) (p1 i), fun b hb => (List.mem_append.1 hb).elim (fun hb => (k2 b hb).mono fun i hi => List.mem_append_left _ hi) (fun hb => (p2 b hb).mono fun i hi => List.mem_append_right _ hi), fun L hL hL2 B hB => ?_⟩
      rw [List.map_cons, List.map_append]
      exact k3 L (fun i hi => hL i (List.mem_append_left _ hi)) hL2 B (fun b hb => hB b (List.mem_append_left _ hb)) _ _ _ (p3 L (fun i hi => hL i (List.mem_append_right _ hi)) hL2 B fun b hb => hB b (List.mem_append_right _ hb))
    unfold argR at h1
    split at h1
    · obtain ⟨⟨x1, x2⟩, hx, h1⟩ := run_bind_some h1
      have := run_ret h1; cases this
      obtain ⟨a1, a2⟩ := cellSC_ok h hv' hx
      exact key rfl rfl a1 (fun b hb => (by cases hb)) fun L hL _ _ _ us ds' bs' ht => .c (a2 L hL) ht
    · obtain ⟨⟨x1, x2⟩, hx, h1⟩ := run_bind_some h1
      have := run_ret h1; cases this
      obtain ⟨us0, hu0, hall⟩ := hv'
      obtain ⟨a1, a2⟩ := cellsSC_ok h hall hx
      exact key rfl rfl a1 (fun b hb => (by cases hb)) fun L hL _ _ _ us ds' bs' ht => by rw [hu0]; exact .agg (a2 L hL) ht
    · rename_i i lo hi
      have h1' := run_ask h1
      split at h1'
      · rename_i own fr d hd
        obtain ⟨hx1, hx2, hx3, A, len, cap, hx4, hx5⟩ := hv'
        obtain ⟨_, ⟨hw, hl⟩, _⟩ := h.row i _ _ _ hd
        have hrow : ∀ L, (own = true → i ∈ L) → SCRep w (lentA g L) (a.eval x) (.row (d.sub lo hi)) := fun L hL => by
          have := h.rowRep hd hL
          rw [hx4] at this
          have e : len = d.len := by obtain ⟨_, _, e, _⟩ := this; injection e with _ e _
          subst e
          rw [hx5, hw]
          exact RowRep.sub this hx2 (by rw [← hl]; exact hx3)
        split at h1'
        · have := run_ret h1'; cases this
          exact key rfl rfl (fun i' hi' => by simp only [List.mem_singleton] at hi'; subst hi'; exact ⟨fr, d, hd⟩) (fun b hb => (by cases hb)) fun L hL _ _ _ us ds' bs' ht => .c (hrow L fun _ => hL i (by simp)) ht
        · have := run_ret h1'; cases this
          exact key rfl rfl (fun i' hi' => (by cases hi')) (fun b hb => (by cases hb)) fun L hL _ _ _ us ds' bs' ht => .c (hrow L fun e => by cases e) ht
      · cases h1'
    · rename_i b
      have h1' := run_ask h1
      split at h1'
      · rename_i cs hb
        obtain ⟨⟨x1, x2⟩, hx, h1⟩ := run_bind_some h1'
        have := run_ret h1; cases this
        obtain ⟨_, us0, ty, hg, hall, hng, _⟩ := h.box b cs hb
        obtain ⟨a1, a2⟩ := cellsSC_ok h hall hx
        refine key rfl rfl a1 (fun b' hb' => by simp only [List.mem_singleton] at hb'; subst hb'; exact ⟨cs, hb, _, _, hx, fun _ hi => hi⟩) fun L hL hL2 B hB us ds' bs' ht => ?_
        rw [hv'.2]
        exact .bx hg (hB b (by simp) cs hb _ _ _ _ hg hx) (fun hA => hA.elim hng fun ⟨i, hi, e⟩ => by obtain ⟨fr, d, hd⟩ := hL2 i hi; exact h.sepRB i b fr d cs hd hb e) ht
      · cases h1'
    · cases h1
theorem freezeW_ok : ∀ {l : List Nat} {ws : List (Loc × Ct)} {σ : St} {g : Gm} (_ : Sat F σ a w g) (G : Loc → Ct) (_ : ∀ i ∈ l, ∃ fr d, (get σ (.r i) = .row true fr d ∨ get σ (.r i) = .row false fr d.shal) ∧ G (.r i) = .row true fr d) (_ : ∀ i ∈ l, (∃ fr d, get σ (.r i) = .row false fr d) → ∀ j, j ∈ g.ob i → g.G j)
    (_ : (freezeW l).run G = some ws), ∃ g', Sat F (push ws σ) a w g' ∧ g.le g' ∧ (g'.rv = g.rv ∧ g'.ob = g.ob) ∧ (∀ i ∈ l, ∀ j, j ∈ g.ob i → g'.G j) ∧ ∀ p ∈ ws, ∃ i fr d, p = (.r i, .row false fr d)
  | [], ws, σ, g, h, G, _, _, hr => by
    have := run_ret hr; cases this
    exact ⟨g, h, g.le_refl, ⟨rfl, rfl⟩, fun i hi => (by cases hi), fun p hp => (by cases hp)⟩
  | i :: l, ws, σ, g, h, G, hl, hz, hr => by
    have hr' := run_ask hr
    split at hr'
    · rename_i own fr d hd
      obtain ⟨ws', hw, hr2⟩ := run_bind_some hr'
      have := run_ret hr2; cases this
      obtain ⟨fr', d', hi1, hi2⟩ := hl i (by simp)
      rw [hd] at hi2
      cases hi2
      have hstep : ∃ g1, Sat F ((.r i, .row false fr d.shal) :: σ) a w g1 ∧ g.le g1 ∧ (g1.rv = g.rv ∧ g1.ob = g.ob) ∧ ∀ j, j ∈ g.ob i → g1.G j := by
        rcases hi1 with hi1 | hi1
        · exact h.freeze hi1
        · refine ⟨g, h.ext fun l => ?_, g.le_refl, ⟨rfl, rfl⟩, hz i (by simp) ⟨fr, d.shal, hi1⟩⟩
          by_cases e : l = .r i
          · subst e; rw [get_same, hi1]
          · exact get_other e _ _
      obtain ⟨g1, e1, e2, e3, e4⟩ := hstep
      obtain ⟨g2, f1, f2, f3, f4, f5⟩ := freezeW_ok e1 G (l := l) (fun i' hi' => by
        obtain ⟨fr', d', h1, h2⟩ := hl i' (List.mem_cons_of_mem _ hi')
        by_cases e : i' = i
        · subst e
          rw [hd] at h2
          cases h2
          exact ⟨fr, d, .inr (get_same _ _ _), hd⟩
        · exact ⟨fr', d', by rw [get_other (Loc.r_ne e)]; exact h1, h2⟩) (fun i' hi' hex j hj => by
        rw [e3.2] at hj
        by_cases e : i' = i
        · subst e; exact e4 j hj
        · obtain ⟨fr', d', h1⟩ := hex
          rw [get_other (Loc.r_ne e)] at h1
          exact e2.G j (hz i' (List.mem_cons_of_mem _ hi') ⟨fr', d', h1⟩ j hj)) hw
      refine ⟨g2, f1, e2.le_trans f2, ⟨f3.1.trans e3.1, f3.2.trans e3.2⟩, fun i' hi' j hj => ?_, fun p hp => ?_⟩
      · rcases List.mem_cons.1 hi' with rfl | hi'
        · exact f2.G j (e4 j hj)
        · exact f4 i' hi' j (by rw [e3.2]; exact hj)
      · rcases List.mem_cons.1 hp with rfl | hp
        · exact ⟨i, fr, d.shal, rfl⟩
        · exact f5 p hp
    · cases hr'
theorem get_push_rows {ws : List (Loc × Ct)} (hf : ∀ p ∈ ws, ∃ i fr d, p = (.r i, .row false fr d)) {l : Loc} (hl : ∀ i, l ≠ .r i) (σ : St) : get (push ws σ) l = get σ l :=
  get_push_other (fun p hp e => by obtain ⟨i, fr, d, rfl⟩ := hf p hp; exact hl i e.symm) σ
theorem sc_cell {A : Nat → Prop} {fr : Bool} {u : Value} {x : SC} (hA : ∀ j, A j → PG g F.N fr j) (h : SCRep w A u x) : CellRep g F.N w u (scCell fr x) := by
  cases x with
  | sc v => exact h
  | row d => exact RowRep.chg (Chg.refl (fun _ => False) w) (fun _ _ h => h) hA h
theorem sc_cells {A : Nat → Prop} {fr : Bool} {us : List Value} {xs : List SC} (hA : ∀ j, A j → PG g F.N fr j) (h : All2 (SCRep w A) us xs) : All2 (CellRep g F.N w) us (xs.map (scCell fr)) := (h.imp fun _ _ h' => sc_cell hA h').map_right
theorem resV1s_ok {A : Nat → Prop} {fr : Bool} (hA : ∀ j, A j → PG g F.N fr j) {G : Loc → Ct} : ∀ {ds : List DA} {vs : List Value} {xs : List V1} (_ : All2 (DARep w A) vs ds) (_ : (resV1s fr ds).run G = some xs), All2 (V1Rep g F.N w) vs xs
  | [], _, xs, .nil, hr => by
    obtain rfl := run_ret hr
    exact .nil
  | d :: ds, _, xs, .cons hd ht, hr => by
    obtain ⟨x, h1, hr⟩ := run_bind_some hr
    obtain ⟨ys, h2, hr⟩ := run_bind_some hr
    obtain rfl := run_ret hr
    refine .cons ?_ (resV1s_ok hA ht h2)
    cases d with
    | c y => obtain rfl := run_ret h1; exact sc_cell hA hd
    | agg ys =>
      obtain rfl := run_ret h1
      obtain ⟨us, rfl, hall⟩ := hd
      exact ⟨us, rfl, sc_cells hA hall⟩
    | bx ys => cases h1
theorem resN_ok {A : Nat → Prop} {fr : Bool} (hA : ∀ j, A j → PG g F.N fr j) {G : Loc → Ct} {ds : List DA} {vs : List Value} (hall : All2 (DARep w A) vs ds) {x : AV} {ws : List (Loc × Ct)} (hr : (resN fr ds).run G = some (x, ws)) : ws = [] ∧ AVRep g F.N w (tupV vs) x := by
  obtain ⟨p, hp, hr⟩ := run_bind_some hr
  have hv := resV1s_ok hA hall hp
  split at hr
  · have := run_ret hr; cases this
    cases hv with
    | cons h1 t1 => cases t1; exact ⟨rfl, h1⟩
  · rename_i vs' hne
    have := run_ret hr; cases this
    refine ⟨rfl, ?_⟩
    have : tupV vs = .tuple vs.toArray := by
      cases vs with
      | nil => rfl
      | cons v vs => cases vs with
        | nil => cases hv with
          | cons h1 t1 => cases t1; exact absurd rfl (hne _)
        | cons _ _ => rfl
    rw [this]
    exact ⟨vs, rfl, hv⟩
theorem Priv.cons {i : Nat} {fr : Bool} {d : Row} {v : Value} {l : List Nat} {b : Nat} (hp : Priv F σ g b) (hb : b ∉ l) : Priv F ((.r i, .row true fr d) :: σ) (g.setR i v d l) b := by
  refine ⟨hp.ng, fun j f1 d1 hj => ?_, fun c cs hc => hp.box c cs (by rw [get_other (by simp)] at hc; exact hc), hp.base⟩
  by_cases e : j = i
  · subst e
    rw [show (g.setR j v d l).ob j = l from if_pos rfl]
    exact hb
  · rw [get_other (Loc.r_ne e)] at hj
    rw [show (g.setR i v d l).ob j = g.ob j from if_neg e]
    exact hp.row j f1 d1 hj
structure MixOk (F : Fr) (τ τ' : St) (a : Act) (w : World) (g g' : Gm) (id id' : Nat) (bl : List Nat) : Prop where
  sat : Sat F τ' a w g'
  le : g.le g'
  id : id ≤ id'
  far : ∀ i, id' ≤ i → get τ' (.r i) = get τ (.r i)
  priv : ∀ b, Priv F τ g b → b ∉ bl → Priv F τ' g' b
theorem mixCs_ok {fl : Bool} {ek : EK} (hek : F.ek = ek) {A G' : Nat → Prop} {G : Loc → Ct} {us : List Value} {xs : List SC} {os os' : List RF} {bl : List Nat} (hm : SMix ek w A G' us xs os os' bl) :
    ∀ {id : Nat} {p : List Cell × List (Loc × Ct) × List RF × Nat} {τ : St} {g : Gm}, (mixCs fl xs os id).run G = some p → Sat F τ a w g → (∀ i, id ≤ i → G (.r i) = .no → get τ (.r i) = .no) → (∀ j, G' j → PG g F.N fl j) → (hasAny os = true → ∀ j, A j → g.G j) →
    (∀ b ∈ bl, Priv F τ g b ∧ F.N b) → bl.Nodup → ∃ g', MixOk F τ (push p.2.1 τ) a w g g' id p.2.2.2 bl ∧ All2 (CellRep g' F.N w) us p.1 ∧ p.2.2.1 = os' := by
  induction hm with
  | nil =>
    intro id p τ g hr hs _ _ _ _ _
    have := run_ret hr; subst this
    exact ⟨g, ⟨hs, g.le_refl, Nat.le_refl _, fun _ _ => rfl, fun b hb _ => hb⟩, .nil, rfl⟩
  | sc _ ih =>
    intro id p τ g hr hs hno hG hA hb hnd
    obtain ⟨q, hq, hr⟩ := run_bind_some hr
    have := run_ret hr; subst this
    obtain ⟨g', h1, h2, h3⟩ := ih hq hs hno hG hA hb hnd
    exact ⟨g', h1, .cons rfl h2, h3⟩
  | ro h _ ih =>
    intro id p τ g hr hs hno hG hA hb hnd
    obtain ⟨q, hq, hr⟩ := run_bind_some hr
    have := run_ret hr; subst this
    obtain ⟨g', h1, h2, h3⟩ := ih hq hs hno hG hA hb hnd
    exact ⟨g', h1, .cons (RowRep.chg (Chg.refl (fun _ => False) w) (fun _ _ h => h) (fun j hj => (hG j hj).mono h1.le.G) h) h2, h3⟩
  | any h _ ih =>
    intro id p τ g hr hs hno hG hA hb hnd
    obtain ⟨q, hq, hr⟩ := run_bind_some hr
    have := run_ret hr; subst this
    obtain ⟨g', h1, h2, h3⟩ := ih hq hs hno hG (fun _ => hA rfl) hb hnd
    exact ⟨g', h1, .cons (RowRep.chg (Chg.refl (fun _ => False) w) (fun _ _ h => h) (fun j hj => ⟨h1.le.G j (hj.elim (hA rfl j) fun hj => (hG j hj).1), fun e => by cases e⟩) h) h2, h3⟩
  | own he h hkb _ ih =>
    rename_i u us d xs os os' bl ol e _
    intro id p τ g hr hs hno hG hA hb hnd
    obtain ⟨hid, hr⟩ := newLoc_ok hr
    obtain ⟨q, hq, hr⟩ := run_bind_some hr
    have := run_ret hr; subst this
    rw [List.nodup_append] at hnd
    have hs1 := hs.newRowL (id := id) (hno id (Nat.le_refl _) hid) (fr := fl) (d := d) (e := e) (v := u) (by rw [hek]; exact he) (h.chg (Chg.refl (fun _ => False) w) (fun _ _ h => h) (rg_mono hG) fun _ _ h => h) hkb fun b hb' => ⟨(hb b (List.mem_append_left _ hb')).1, fun _ => (hb b (List.mem_append_left _ hb')).2⟩
    have hnd0 : ¬ g.dr id := fun hd => (hs.dr id hd).1 (hno id (Nat.le_refl _) hid)
    have hle := g.setR_le hnd0 u d ol
    obtain ⟨g', h1, h2, h3⟩ := ih hq hs1 (fun i hi hn => by rw [get_other (Loc.r_ne (by omega))]; exact hno i (by omega) hn) (fun j hj => hG j hj) (fun ha => hA ha) (fun b hb' => ⟨(hb b (List.mem_append_right _ hb')).1.cons fun e => hnd.2.2 b e b hb' rfl, (hb b (List.mem_append_right _ hb')).2⟩) hnd.2.1
    refine ⟨g', ⟨h1.sat, hle.le_trans h1.le, Nat.le_trans (Nat.le_succ id) h1.id, fun i hi => ?_, fun b hp hn => ?_⟩, .cons ⟨h1.le.dr id (.inr rfl), ?_⟩ h2, h3⟩
    · have hlt : id + 1 ≤ i := Nat.le_trans h1.id hi
      exact (h1.far i hi).trans (get_other (Loc.r_ne (by omega)) _ _)
    · exact h1.priv b (hp.cons fun e => hn (List.mem_append_left _ e)) fun hb' => hn (List.mem_append_right _ hb')
    · rw [h1.le.rv id (.inr rfl)]; exact (if_pos rfl).symm
theorem mixVs_ok {fl : Bool} {ek : EK} (hek : F.ek = ek) {A G' : Nat → Prop} {G : Loc → Ct} {us : List Value} {xs : List DA} {os : List RF} {bl : List Nat} (hm : DMix ek w A G' us xs os bl) :
    ∀ {id : Nat} {p : List V1 × List (Loc × Ct)} {τ : St} {g : Gm}, (mixVs fl xs os id).run G = some p → Sat F τ a w g → (∀ i, id ≤ i → G (.r i) = .no → get τ (.r i) = .no) → (∀ j, G' j → PG g F.N fl j) → (hasAny os = true → ∀ j, A j → g.G j) →
    (∀ b ∈ bl, Priv F τ g b ∧ F.N b) → bl.Nodup → ∃ g', Sat F (push p.2 τ) a w g' ∧ g.le g' ∧ All2 (V1Rep g' F.N w) us p.1 := by
  induction hm with
  | nil =>
    intro id p τ g hr hs _ _ _ _ _
    have := run_ret hr; subst this
    exact ⟨g, hs, g.le_refl, .nil⟩
  | c h _ ih =>
    intro id p τ g hr hs hno hG hA hb hnd
    obtain ⟨q, hq, hr⟩ := run_bind_some hr
    rw [List.nodup_append] at hnd
    obtain ⟨g1, h1, h2, h3⟩ := mixCs_ok hek h hq hs hno hG hA (fun b hb' => hb b (List.mem_append_left _ hb')) hnd.1
    split at hr
    · rename_i c hc
      obtain ⟨q2, hq2, hr⟩ := run_bind_some hr
      have := run_ret hr; subst this
      rw [h3] at hq2
      obtain ⟨g2, e1, e2, e3⟩ := ih hq2 h1.sat (fun i hi hn => by rw [h1.far i hi]; exact hno i (Nat.le_trans h1.id hi) hn) (fun j hj => (hG j hj).mono h1.le.G) (fun ha j hj => h1.le.G j (hA (h.hasA ha) j hj)) (fun b hb' => ⟨h1.priv b (hb b (List.mem_append_right _ hb')).1 fun hb2 => hnd.2.2 b hb2 b hb' rfl, (hb b (List.mem_append_right _ hb')).2⟩) hnd.2.1
      refine ⟨g2, by rw [push_append]; exact e1, h1.le.le_trans e2, .cons ?_ e3⟩
      rw [hc] at h2
      cases h2 with
      | cons h4 _ => exact h4.le e2
    · cases hr
  | agg h _ ih =>
    intro id p τ g hr hs hno hG hA hb hnd
    obtain ⟨q, hq, hr⟩ := run_bind_some hr
    rw [List.nodup_append] at hnd
    obtain ⟨g1, h1, h2, h3⟩ := mixCs_ok hek h hq hs hno hG hA (fun b hb' => hb b (List.mem_append_left _ hb')) hnd.1
    obtain ⟨q2, hq2, hr⟩ := run_bind_some hr
    have := run_ret hr; subst this
    rw [h3] at hq2
    obtain ⟨g2, e1, e2, e3⟩ := ih hq2 h1.sat (fun i hi hn => by rw [h1.far i hi]; exact hno i (Nat.le_trans h1.id hi) hn) (fun j hj => (hG j hj).mono h1.le.G) (fun ha j hj => h1.le.G j (hA (h.hasA ha) j hj)) (fun b hb' => ⟨h1.priv b (hb b (List.mem_append_right _ hb')).1 fun hb2 => hnd.2.2 b hb2 b hb' rfl, (hb b (List.mem_append_right _ hb')).2⟩) hnd.2.1
    exact ⟨g2, by rw [push_append]; exact e1, h1.le.le_trans e2, .cons ⟨_, rfl, h2.imp fun _ _ h' => h'.le e2⟩ e3⟩
theorem mixR_ok {fl al : Bool} {id : Nat} {xs : List DA} {os : List RF} {G : Loc → Ct} {rv : AV} {ws : List (Loc × Ct)} (h : (resR fl al (.mix os) id xs).run G = some (rv, ws)) :
    ∃ vs, (mixVs fl xs os id).run G = some (vs, ws) ∧ ∀ (w : World) (g : Gm) us, All2 (V1Rep g F.N w) us vs → AVRep g F.N w (tupV us) rv := by
  obtain ⟨⟨vs, ws'⟩, hp, h⟩ := run_bind_some h
  simp only at h
  split at h
  · have := run_ret h; cases this
    refine ⟨_, hp, fun w g us hu => ?_⟩
    cases hu with
    | cons h1 t1 => cases t1; exact h1
  · have := run_ret h; cases this
    rename_i hne _
    refine ⟨_, hp, fun w g us hu => ?_⟩
    have : tupV us = .tuple us.toArray := by
      cases us with
      | nil => rfl
      | cons v us => cases us with
        | nil => cases hu with
          | cons h1 t1 => cases t1; exact absurd rfl (hne _)
        | cons _ _ => rfl
    rw [this]
    exact ⟨us, rfl, hu⟩
/-! rows handed over -/
theorem giveC_ok (hek : F.ek = cx.ek) (h : Sat F σ a w g) {c : Cell} {u : Value} (hu : CellRep g F.N w u c) {x : SC} {l : List Nat} (hr : (cellSC c).run (get σ) = some (x, l)) {is : List Nat} {fr : Bool} (hg : (giveC c).run (get σ) = some (is, fr)) :
    (∀ i ∈ is, ∃ f d, get σ (.r i) = .row true f d ∧ (fr = true → f = true)) ∧ ∀ (B : Nat → Prop), (∀ j, PG g F.N fr j → B j) → ∀ us xs os, GCells cx.ek w B us xs os → GCells cx.ek w B (u :: us) (x :: xs) ((is.map fun i => (g.rv i, g.ob i)) ++ os) := by
  unfold giveC at hg
  split at hg
  · have := run_ret hg; cases this
    have := run_ret hr; cases this
    exact ⟨fun i hi => (by cases hi), fun B _ us xs os ht => by cases hu; exact .sc ht⟩
  · rename_i i
    have hg' := run_ask hg
    split at hg'
    · rename_i f d hd
      have := run_ret hg'; cases this
      have hr' := run_ask hr
      rw [hd] at hr'
      have := run_ret hr'; cases this
      obtain ⟨_, rfl⟩ := hu
      obtain ⟨_, _, ⟨e, he, ho, hkb⟩, _⟩ := h.row i _ _ _ hd
      exact ⟨fun i' hi => (by simp only [List.mem_singleton] at hi; subst hi; exact ⟨_, d, hd, id⟩), fun B hB us xs os ht => .own (by rw [← hek]; exact he) (ho.chg (Chg.refl (fun _ => False) w) (fun _ _ h => h) (rg_mono hB) fun _ _ h => h) hkb ht⟩
    · cases hg'
  · cases hg
theorem PG.all {g : Gm} {N : Nat → Prop} {a b : Bool} {B : Nat → Prop} (h : ∀ j, PG g N (a && b) j → B j) : (∀ j, PG g N a j → B j) ∧ ∀ j, PG g N b j → B j :=
  ⟨fun j hj => h j ⟨hj.1, fun e => hj.2 (by simp only [Bool.and_eq_true] at e; exact e.1)⟩, fun j hj => h j ⟨hj.1, fun e => hj.2 (by simp only [Bool.and_eq_true] at e; exact e.2)⟩⟩
theorem giveCs_ok (hek : F.ek = cx.ek) (h : Sat F σ a w g) : ∀ {cs : List Cell} {us : List Value} (_ : All2 (CellRep g F.N w) us cs) {xs : List SC} {l : List Nat} (_ : (cellsSC cs).run (get σ) = some (xs, l)) {is : List Nat} {fr : Bool} (_ : (giveCs cs).run (get σ) = some (is, fr)),
    (∀ i ∈ is, ∃ f d, get σ (.r i) = .row true f d ∧ (fr = true → f = true)) ∧ ∀ (B : Nat → Prop), (∀ j, PG g F.N fr j → B j) → GCells cx.ek w B us xs (is.map fun i => (g.rv i, g.ob i))
  | [], _, .nil, xs, l, hr, is, fr, hg => by
    have := run_ret hr; cases this
    have := run_ret hg; cases this
    exact ⟨fun i hi => (by cases hi), fun B _ => .nil⟩
  | c :: cs, _, .cons hu hus, xs, l, hr, is, fr, hg => by
    obtain ⟨⟨x, l1⟩, h1, hr⟩ := run_bind_some hr
    obtain ⟨⟨ys, l2⟩, h2, hr⟩ := run_bind_some hr
    have := run_ret hr; cases this
    obtain ⟨⟨i1, f1⟩, g1, hg⟩ := run_bind_some hg
    obtain ⟨⟨i2, f2⟩, g2, hg⟩ := run_bind_some hg
    have := run_ret hg; cases this
    obtain ⟨a1, b1⟩ := giveC_ok hek h hu h1 g1
    obtain ⟨a2, b2⟩ := giveCs_ok hek h hus h2 g2
    refine ⟨fun i hi => ?_, fun B hB => ?_⟩
    · rcases List.mem_append.1 hi with hi | hi
      · obtain ⟨f, d, q1, q2⟩ := a1 i hi
        exact ⟨f, d, q1, fun e => q2 (by simp only [Bool.and_eq_true] at e; exact e.1)⟩
      · obtain ⟨f, d, q1, q2⟩ := a2 i hi
        exact ⟨f, d, q1, fun e => q2 (by simp only [Bool.and_eq_true] at e; exact e.2)⟩
    · rw [List.map_append]
      exact b1 B (PG.all hB).1 _ _ _ (b2 B (PG.all hB).2)
theorem givesR_ok (hek : F.ek = cx.ek) (h : Sat F σ a w g) : ∀ (l : List Operand) (ds : List DA) (ls bs : List Nat) (_ : (argsR l).run (get σ) = some (ds, ls, bs)) (is : List Nat) (fr : Bool) (_ : (givesR l).run (get σ) = some (is, fr)),
    (∀ i ∈ is, ∃ f d, get σ (.r i) = .row true f d ∧ (fr = true → f = true)) ∧ ∀ (B : Nat → Prop), (∀ j, PG g F.N fr j → B j) → GArgs cx.ek w B (l.map a.eval) ds (is.map fun i => (g.rv i, g.ob i))
  | [], ds, ls, bs, hr, is, fr, hg => by
    have := run_ret hr; cases this
    have := run_ret hg; cases this
    exact ⟨fun i hi => (by cases hi), fun B _ => .nil⟩
  | x :: l, ds, ls, bs, hr, is, fr, hg => by
    obtain ⟨v, hv, hr⟩ := run_bind_some hr
    obtain ⟨⟨d1, l1, b1⟩, h1, hr⟩ := run_bind_some hr
    obtain ⟨⟨d2, l2, b2⟩, h2, hr⟩ := run_bind_some hr
    have := run_ret hr; cases this
    obtain ⟨v', hv2, hg⟩ := run_bind_some hg
    obtain rfl : v = v' := Option.some.inj (hv.symm.trans hv2)
    obtain ⟨⟨i1, f1⟩, g1, hg⟩ := run_bind_some hg
    obtain ⟨⟨i2, f2⟩, g2, hg⟩ := run_bind_some hg
    have := run_ret hg; cases this
    have hv' := opv_ok h hv
    obtain ⟨a2, b2'⟩ := givesR_ok hek h l _ _ _ h2 _ _ g2
    have fin : (∀ i ∈ i1, ∃ f d, get σ (.r i) = .row true f d ∧ (f1 = true → f = true)) → (∀ (B : Nat → Prop), (∀ j, PG g F.N f1 j → B j) → ∀ us ds' os, GArgs cx.ek w B us ds' os → GArgs cx.ek w B (a.eval x :: us) (d1 :: ds') ((i1.map fun i => (g.rv i, g.ob i)) ++ os)) →
        (∀ i ∈ i1 ++ i2, ∃ f d, get σ (.r i) = .row true f d ∧ ((f1 && f2) = true → f = true)) ∧ ∀ (B : Nat → Prop), (∀ j, PG g F.N (f1 && f2) j → B j) → GArgs cx.ek w B ((x :: l).map a.eval) (d1 :: d2) ((i1 ++ i2).map fun i => (g.rv i, g.ob i)) := fun k1 k2 => by
      refine ⟨fun i hi => ?_, fun B hB => ?_⟩
      · rcases List.mem_append.1 hi with hi | hi
        · obtain ⟨f, d, q1, q2⟩ := k1 i hi
          exact ⟨f, d, q1, fun e => q2 (by simp only [Bool.and_eq_true] at e; exact e.1)⟩
        · obtain ⟨f, d, q1, q2⟩ := a2 i hi
          exact ⟨f, d, q1, fun e => q2 (by simp only [Bool.and_eq_true] at e; exact e.2)⟩
      · rw [List.map_append, List.map_cons]
        exact k2 B (PG.all hB).1 _ _ _ (b2' B (PG.all hB).2)
    unfold giveA at g1
    split at g1
    · obtain ⟨⟨x1, x2⟩, hx, h1⟩ := run_bind_some h1
      have := run_ret h1; cases this
      obtain ⟨p1, p2⟩ := giveC_ok hek h hv' hx g1
      exact fin p1 fun B hB us ds' os ht => .c (by have := p2 B hB [] [] [] .nil; rwa [List.append_nil] at this) ht
    · obtain ⟨⟨x1, x2⟩, hx, h1⟩ := run_bind_some h1
      have := run_ret h1; cases this
      obtain ⟨us0, hu0, hall⟩ := hv'
      obtain ⟨p1, p2⟩ := giveCs_ok hek h hall hx g1
      exact fin p1 fun B hB us ds' os ht => by rw [hu0]; exact .agg (p2 B hB) ht
    · cases g1
theorem nodupB_nd : ∀ (l : List Nat), nodupB l = true → l.Nodup
  | [], _ => .nil
  | n :: l, h => by
    simp only [nodupB, Bool.and_eq_true, Bool.not_eq_true', List.any_eq_false] at h
    exact List.nodup_cons.2 ⟨fun hm => h.1 n hm (Nat.beq_refl n), nodupB_nd l h.2⟩
theorem killW_cons (i : Nat) (is : List Nat) : killW (i :: is) = (.r i, .dead) :: killW is := rfl
theorem killAll_ok : ∀ {is : List Nat} {σ : St} (_ : Sat F σ a w g) (_ : is.Nodup) (_ : ∀ i ∈ is, ∃ f d, get σ (.r i) = .row true f d),
    Sat F (push (killW is) σ) a w g ∧ (∀ i ∈ is, ∀ b, b ∈ g.ob i → Priv F (push (killW is) σ) g b) ∧ (∀ b, Priv F σ g b → Priv F (push (killW is) σ) g b) ∧ ∀ l, (∀ i ∈ is, l ≠ .r i) → get (push (killW is) σ) l = get σ l
  | [], σ, h, _, _ => ⟨h, fun i hi => (by cases hi), fun _ h => h, fun _ _ => rfl⟩
  | i :: is, σ, h, hn, hd => by
    obtain ⟨f, d, hi⟩ := hd i List.mem_cons_self
    obtain ⟨k1, k2⟩ := h.kill hi
    have hne : ∀ j ∈ is, j ≠ i := fun j hj e => (List.nodup_cons.1 hn).1 (e ▸ hj)
    obtain ⟨e1, e2, e3, e4⟩ := killAll_ok (is := is) k1 (List.nodup_cons.1 hn).2 fun j hj => by
      obtain ⟨f', d', hj'⟩ := hd j (List.mem_cons_of_mem _ hj)
      exact ⟨f', d', by rw [get_other (Loc.r_ne (hne j hj))]; exact hj'⟩
    rw [killW_cons, push_cons]
    refine ⟨e1, fun j hj b hb => ?_, fun b hp => e3 b (hp.dead i), fun l hl => by rw [e4 l fun j hj => hl j (List.mem_cons_of_mem _ hj), get_other (hl i List.mem_cons_self)]⟩
    rcases List.mem_cons.1 hj with rfl | hj
    · exact e3 b (k2 b hb)
    · exact e2 j hj b hb
theorem kind_wd {d d' : Row} (h : d.kind = d'.kind) : d.wd = d'.wd := by rw [← kwd_wd, ← kwd_wd, h]
/-- Rows that stand again, with other contents. -/
theorem writeW_ok {G : Loc → Ct} {fr : Bool} {w' : World} : ∀ {is : List Nat} {ds : List SC} {ws : List (Loc × Ct)} (_ : (writeW fr is ds).run G = some ws) {τ : St} (_ : Sat F τ a w' g) (_ : is.Nodup)
    (_ : ∀ i ∈ is, g.dr i ∧ (∀ f d, G (.r i) = .row true f d → g.wd i = d.wd ∧ g.ln i = d.len) ∧ ∀ b, b ∈ g.ob i → Priv F τ g b ∧ (fr = true → F.N b)) (_ : ∀ i ∈ is, ∀ j ∈ is, i ≠ j → ∀ b, b ∈ g.ob i → b ∉ g.ob j)
    (_ : All2 (WrRep F.ek w' (PG g F.N fr)) (is.map fun i => (g.rv i, g.ob i)) ds), Sat F (push ws τ) a w' g
  | [], [], ws, hr, τ, h, _, _, _, _ => by have := run_ret hr; cases this; exact h
  | [], _ :: _, ws, hr, τ, h, _, _, _, _ => by cases hr
  | i :: is, [], ws, hr, τ, h, _, _, _, _ => by cases hr
  | i :: is, .sc v :: ds, ws, hr, τ, h, _, _, _, _ => by cases hr
  | i :: is, .row d :: ds, ws, hr, τ, h, hn, hi, hs, hw => by
    have hr' := run_ask hr
    split at hr'
    · rename_i f d0 hd0
      obtain ⟨ht, hr'⟩ := run_test hr'
      simp only [Bool.and_eq_true] at ht
      have hk := RK.eqb_iff.1 ht.1
      have hl := Nat.eq_of_beq_eq_true ht.2
      obtain ⟨r, hr1, hr'⟩ := run_bind_some hr'
      have := run_ret hr'; cases this
      obtain ⟨q1, q2, q3⟩ := hi i List.mem_cons_self
      obtain ⟨q4, q5⟩ := q2 _ _ hd0
      cases hw with
      | cons hw1 hw2 =>
        obtain ⟨e, he, ho, hko⟩ := hw1
        have h1 := h.reRow (i := i) q1 (fr := fr) (d := d) (e := e) (q4.trans (kind_wd hk).symm) (q5.trans hl.symm) he ho hko q3
        rw [push_cons]
        exact writeW_ok hr1 h1 (List.nodup_cons.1 hn).2 (fun j hj => by
          obtain ⟨p1, p2, p3⟩ := hi j (List.mem_cons_of_mem _ hj)
          exact ⟨p1, p2, fun b hb => ⟨(p3 b hb).1.again fun e => hs i List.mem_cons_self j (List.mem_cons_of_mem _ hj) (fun e => (List.nodup_cons.1 hn).1 (e ▸ hj)) b e hb, (p3 b hb).2⟩⟩) (fun j hj k hk => hs j (List.mem_cons_of_mem _ hj) k (List.mem_cons_of_mem _ hk)) hw2
    · cases hr'
theorem mem_owns {is : List Nat} {b : Nat} : b ∈ obs (is.map fun i => (g.rv i, g.ob i)) ↔ ∃ i ∈ is, b ∈ g.ob i := by
  unfold obs
  rw [List.mem_flatMap]
  constructor
  · rintro ⟨q, hq, hb⟩
    obtain ⟨i, hi, rfl⟩ := List.mem_map.1 hq
    exact ⟨i, hi, hb⟩
  · rintro ⟨i, hi, hb⟩
    exact ⟨_, List.mem_map.2 ⟨i, hi, rfl⟩, hb⟩
theorem owns_nodup (h : Sat F σ a w g) : ∀ {is : List Nat} (_ : is.Nodup) (_ : ∀ i ∈ is, ∃ f d, get σ (.r i) = .row true f d), (obs (is.map fun i => (g.rv i, g.ob i))).Nodup
  | [], _, _ => .nil
  | i :: is, hn, hd => by
    have ih := owns_nodup h (List.nodup_cons.1 hn).2 fun j hj => hd j (List.mem_cons_of_mem _ hj)
    obtain ⟨f, d, h1⟩ := hd i List.mem_cons_self
    show (g.ob i ++ obs (is.map fun i => (g.rv i, g.ob i))).Nodup
    obtain ⟨_, _, ⟨_, _, _, hkb⟩, _⟩ := h.row i _ _ _ h1
    refine List.nodup_append.2 ⟨hkb.nodup, ih, fun b hb c hc e => ?_⟩
    subst e
    obtain ⟨j, hj, hjb⟩ := mem_owns.1 hc
    obtain ⟨f', d', h2⟩ := hd j (List.mem_cons_of_mem _ hj)
    exact h.sepR i j _ _ _ _ b (fun e => (List.nodup_cons.1 hn).1 (e ▸ hj)) h1 h2 hb hjb
theorem all_sc {A : Nat → Prop} {ds : List DA} (hs : allSc ds = true) {vs : List Value} (h : All2 (DARep w fun _ => False) vs ds) : All2 (DARep w A) vs ds := by
  induction h with
  | nil => exact .nil
  | cons h _ ih =>
    rename_i _ d _ _ _
    cases d with
    | c x => cases x with
      | sc v => exact .cons h (ih hs)
      | row d => cases hs
    | agg x => cases hs
    | bx x => cases hs
theorem give_ok (hF : F.ek = cx.ek) (h : Sat F σ a w g) {o : Oper} (hd : dstOk F.nt o.dst = true) {id : Nat} {f : FuncId} {args : List Operand} {sp : Sp} {ds : List DA} {ls bs : List Nat} (hargs : (argsR args).run (get σ) = some (ds, ls, bs))
    (hcall : ∀ w B vals os, GArgs cx.ek w B vals ds os → (obs os).Nodup → (∀ b ∈ obs os, ¬ B b) → (∀ j, B j → j < w.heap.size) → Calls P f vals.toArray w (GPost cx.ek w B os sp))
    {ws : List (Loc × Ct)} (hr : (giveR id o.dst sp args).run (get σ) = some ws) {N : Act → World → Prop} (hn : ∀ v w' g', Sat F (push ws σ) (a.put o.dst v) w' g' → N (a.put o.dst v) w') :
    Calls P f (args.map a.eval).toArray w fun e w' => ∃ v, e = .returned v ∧ N (a.put o.dst v) w' := by
  obtain ⟨⟨is, fr⟩, hg, hr⟩ := run_bind_some hr
  obtain ⟨hnd, hr⟩ := run_test hr
  have hnd := nodupB_nd _ hnd
  obtain ⟨hi, hB⟩ := givesR_ok hF h args ds ls bs hargs is fr hg
  have hi' : ∀ i ∈ is, ∃ f d, get σ (.r i) = .row true f d := fun i hii => let ⟨f, d, q, _⟩ := hi i hii; ⟨f, d, q⟩
  have hrow : ∀ i ∈ is, ∀ b, b ∈ g.ob i → ¬ g.G b ∧ (fr = true → F.N b) ∧ b < w.heap.size := fun i hii b hb => by
    obtain ⟨f, d, q, qf⟩ := hi i hii
    obtain ⟨_, _, _, h4⟩ := h.row i _ _ _ q
    exact ⟨(h4 b hb).1, fun e => (h4 b hb).2.2 (qf e), h.own_lt q hb⟩
  have hbase : F.base ≤ w.heap.size := by have := h.base; have := h.chg.size; omega
  refine (hcall w (PG g F.N fr) _ _ (hB _ fun _ hj => hj) (owns_nodup h hnd hi') (fun b hb hG => by
    obtain ⟨i, hii, hib⟩ := mem_owns.1 hb
    exact (hrow i hii b hib).1 hG.1) fun j hj => h.gb j hj.1).mono fun e w' hpost => ?_
  obtain ⟨v, rfl, hch, hpost⟩ := hpost
  refine ⟨v, rfl, ?_⟩
  obtain ⟨k1, k2, k3, k4⟩ := killAll_ok h hnd hi'
  have hs := k1.world hch fun j _ hx => by
    obtain ⟨u, hu, hub⟩ := hx
    obtain ⟨i, hii, rfl⟩ := List.mem_map.1 hu
    exact k2 i hii j hub
  split at hr
  · rename_i hm hres hou
    rw [hm, hres, hou] at hpost
    obtain ⟨hid, hr⟩ := newLoc_ok hr
    have := run_ret hr; subst this
    obtain ⟨e, ol, he, ho, hko, hob⟩ := hpost
    have hid' : get (push (killW is) σ) (.r id) = .no := by
      rw [k4 _ fun i hii e => ?_]
      · exact hid
      · obtain ⟨f, d, q⟩ := hi' i hii
        rw [← e, hid] at q; cases q
    have hs2 := hs.newRowL hid' (fr := fr) (by rw [hF]; exact he) ho hko fun b hb => by
      rcases hob b hb with ⟨u, hu, hub⟩ | hge
      · obtain ⟨i, hii, rfl⟩ := List.mem_map.1 hu
        exact ⟨k2 i hii b hub, (hrow i hii b hub).2.1⟩
      · exact ⟨k1.fresh hge, fun _ => F.hN _ (Nat.le_trans hbase hge)⟩
    have hs3 := hs2.dst (dst := o.dst) hd (v := v) (x := .v (.cell (.ref id))) ⟨.inr rfl, (if_pos rfl).symm⟩
    exact hn v w' _ (by rw [push_append, push_cons]; exact hs3)
  · rename_i ds' hm hou
    rw [hm, hou] at hpost
    obtain ⟨w1, hw1, hr⟩ := run_bind_some hr
    obtain ⟨⟨rv, w2⟩, hw2, hr⟩ := run_bind_some hr
    obtain ⟨hsc, hr⟩ := run_test hr
    have := run_ret hr; subst this
    obtain ⟨⟨vs, rfl, hall⟩, hwr⟩ := hpost
    have hs2 := writeW_ok hw1 hs hnd (fun i hii => by
      obtain ⟨f, d, q⟩ := hi' i hii
      obtain ⟨h1, h2, _⟩ := h.row i _ _ _ q
      exact ⟨h1, fun f' d' hq => by rw [q] at hq; cases hq; exact h2, fun b hb => ⟨k2 i hii b hb, (hrow i hii b hb).2.1⟩⟩) (fun i hii j hjj hij b hb e => by
      obtain ⟨f, d, q⟩ := hi' i hii
      obtain ⟨f', d', q'⟩ := hi' j hjj
      exact h.sepR i j _ _ _ _ b hij q q' hb e) (by rw [hF]; exact hwr)
    obtain ⟨rfl, hav⟩ := resN_ok (F := F) (g := g) (A := fun _ => False) (fr := true) (fun _ hj => hj.elim) hall hw2
    have hs3 := hs2.dst (dst := o.dst) hd hav
    exact hn _ w' _ (by rw [push_append, push_append]; exact hs3)
  · cases hr
theorem bxCs_ok (h : Sat F σ a w g) {B : Nat → Prop} {fl : Bool} (hG : ∀ j, g.G j → (fl = true → F.N j) → B j) : ∀ {cs : List Cell} {us : List Value} (_ : All2 (CellRep g F.N w) us cs) {f o : Bool} (_ : (bxCs cs).run (get σ) = some (f, o)) (_ : fl = true → f = true)
    {xs : List SC} {l : List Nat} (_ : (cellsSC cs).run (get σ) = some (xs, l)) (_ : o = true → ∀ i ∈ l, ∀ j, j ∈ g.ob i → (fl = true → F.N j) → B j), All2 (SCRep w B) us xs
  | [], _, .nil, f, o, _, _, xs, l, hx, _ => by
    have := run_ret hx; cases this
    exact .nil
  | c :: cs, _, .cons hu hus, f, o, hr, hf, xs, l, hx, hO => by
    obtain ⟨⟨x, l1⟩, h1, hx⟩ := run_bind_some hx
    obtain ⟨⟨ys, l2⟩, h2, hx⟩ := run_bind_some hx
    have := run_ret hx; cases this
    cases c with
    | sc v =>
      have := run_ret h1; cases this
      exact .cons hu (bxCs_ok h hG hus hr hf h2 fun e i hi => hO e i (List.mem_append_right _ hi))
    | ro fr d =>
      have := run_ret h1; cases this
      obtain ⟨⟨f2, o2⟩, h3, hr⟩ := run_bind_some hr
      have := run_ret hr; cases this
      simp only [Bool.and_eq_true] at hf
      exact .cons (RowRep.chg (Chg.refl (fun _ => False) w) (fun _ _ h => h) (fun j hj => hG j hj.1 fun e => hj.2 (hf e).1) hu) (bxCs_ok h hG hus h3 (fun e => (hf e).2) h2 fun e i hi => hO e i (List.mem_append_right _ hi))
    | ref i =>
      have h1' := run_ask h1
      have hr' := run_ask hr
      split at h1'
      · rename_i own fr d hd
        rw [hd] at hr'
        obtain ⟨⟨f2, o2⟩, h3, hr⟩ := run_bind_some hr'
        have := run_ret hr; cases this
        simp only [Bool.and_eq_true] at hf
        obtain ⟨_, rfl⟩ := hu
        obtain ⟨_, _, h4⟩ := h.row i _ _ _ hd
        cases own with
        | true =>
          have := run_ret h1'; cases this
          obtain ⟨⟨e, _, ho, hkb⟩, hb⟩ := h4
          exact .cons (ho.row (rg_all (fun j hj => hG j hj.1 fun e => hj.2 (hf e).1) fun j hj => hO rfl i (by simp) j hj fun e => (hb j hj).2.2 (hf e).1) fun j hj => hO rfl i (by simp) j (hkb.out j hj) fun e => (hb j (hkb.out j hj)).2.2 (hf e).1) (bxCs_ok h hG hus h3 (fun e => (hf e).2) h2 fun _ i hi => hO rfl i (List.mem_append_right _ hi))
        | false =>
          have := run_ret h1'; cases this
          exact .cons (RowRep.chg (Chg.refl (fun _ => False) w) (fun _ _ h => h) (fun j hj => hG j hj.1 fun e => hj.2 (hf e).1) h4) (bxCs_ok h hG hus h3 (fun e => (hf e).2) h2 fun e i hi => hO (by simpa using e) i (List.mem_append_right _ hi))
      · cases h1'
theorem RowRep.and {w : World} {p q : Nat → Prop} {u : Value} {d : Row} (h : RowRep w p u d) (k : RowRep w q u d) : RowRep w (fun j => p j ∧ q j) u d := by
  obtain ⟨A, cap, rfl, h1, h2⟩ := h
  obtain ⟨A', cap', e, k1, k2⟩ := k
  injection e with e1 _ e3
  subst e1 e3
  refine ⟨A, cap, rfl, h1, fun hl => ?_⟩
  obtain ⟨ad, ha, hb, hc⟩ := h2 hl
  obtain ⟨ad', ha', kb, kc⟩ := k2 hl
  rw [ha] at ha'
  cases ha'
  refine ⟨ad, ha, ⟨hb, kb⟩, fun j c hj => ?_⟩
  obtain ⟨x, x1, x2⟩ := hc j c hj
  obtain ⟨y, y1, y2⟩ := kc j c hj
  rw [x1] at y1
  cases y1
  refine ⟨x, x1, ?_⟩
  cases c with
  | sc v => exact x2
  | ir xs =>
    obtain ⟨A2, cap2, rfl, m1, m2⟩ := x2
    obtain ⟨A3, cap3, e, n1, n2⟩ := y2
    injection e with e1 _ e3
    subst e1 e3
    refine ⟨A2, cap2, rfl, m1, fun hl2 => ?_⟩
    obtain ⟨ad2, a1, a2, a3⟩ := m2 hl2
    obtain ⟨ad3, b1, b2, b3⟩ := n2 hl2
    rw [a1] at b1
    cases b1
    exact ⟨ad2, a1, ⟨a2, b2⟩, a3⟩
theorem SCRep.and {w : World} {p q : Nat → Prop} {u : Value} {x : SC} (h : SCRep w p u x) (k : SCRep w q u x) : SCRep w (fun j => p j ∧ q j) u x := by
  cases x with
  | sc v => exact h
  | row d => exact RowRep.and h k
theorem SCRep.ands {w : World} {p q : Nat → Prop} {us : List Value} {xs : List SC} (h : All2 (SCRep w p) us xs) : All2 (SCRep w q) us xs → All2 (SCRep w fun j => p j ∧ q j) us xs := by
  induction h with
  | nil => intro _; exact .nil
  | cons h _ ih => intro k; cases k with
    | cons k1 k2 => exact .cons (h.and k1) (ih k2)
def QRep (w : World) (q : Nat → Prop) (u : Value) : DA → Prop
  | .c x => SCRep w q u x
  | .agg xs => ∃ us : List Value, u = .agg us.toArray ∧ All2 (SCRep w q) us xs
  | .bx _ => True
theorem ArgsRep.and {w : World} {p q B : Nat → Prop} {us : List Value} {ds : List DA} {bs : List Nat} (h : ArgsRep w p B us ds bs) : All2 (QRep w q) us ds → ArgsRep w (fun j => p j ∧ q j) B us ds bs := by
  induction h with
  | nil => intro _; exact .nil
  | c h _ ih => intro k; cases k with
    | cons k1 k2 => exact .c (SCRep.and h k1) (ih k2)
  | agg h _ ih => intro k; cases k with
    | cons k1 k2 =>
      obtain ⟨us', e, k3⟩ := k1
      injection e with e
      have e := congrArg Array.toList e
      simp only [] at e
      rw [← e] at k3
      exact .agg (SCRep.ands h k3) (ih k2)
  | bx h0 h hA _ ih => intro k; cases k with
    | cons k1 k2 => exact .bx h0 h (fun hh => hA hh.1) (ih k2)
theorem rfC_ok (h : Sat F σ a w g) {c : Cell} {u : Value} (hu : CellRep g F.N w u c) {f : Bool} (hf : (rfC c).run (get σ) = some f) {x : SC} {l : List Nat} (hr : (cellSC c).run (get σ) = some (x, l)) {q : Nat → Prop} (hq : ∀ j, (f = true → F.N j) → q j) : SCRep w q u x := by
  cases c with
  | sc v => have := run_ret hr; cases this; exact hu
  | ro fr d =>
    have := run_ret hr; cases this
    have := run_ret hf; cases this
    exact RowRep.chg (Chg.refl (fun _ => False) w) (fun _ _ h => h) (fun j hj => hq j hj.2) hu
  | ref i =>
    have hr' := run_ask hr
    have hf' := run_ask hf
    split at hr'
    · rename_i own fr d hd
      rw [hd] at hf'
      have := run_ret hf'; cases this
      obtain ⟨_, rfl⟩ := hu
      obtain ⟨_, _, h4⟩ := h.row i _ _ _ hd
      cases own with
      | true =>
        have := run_ret hr'; cases this
        obtain ⟨⟨e, _, ho, hkb⟩, hb⟩ := h4
        exact ho.row (rg_all (fun j hj => hq j hj.2) fun j hj => hq j (hb j hj).2.2) fun j hj => hq j (hb j (hkb.out j hj)).2.2
      | false =>
        have := run_ret hr'; cases this
        exact RowRep.chg (Chg.refl (fun _ => False) w) (fun _ _ h => h) (fun j hj => hq j hj.2) h4
    · cases hr'
theorem rfCs_ok (h : Sat F σ a w g) : ∀ {cs : List Cell} {us : List Value} (_ : All2 (CellRep g F.N w) us cs) {f : Bool} (_ : (rfCs cs).run (get σ) = some f) {xs : List SC} {l : List Nat} (_ : (cellsSC cs).run (get σ) = some (xs, l)) {q : Nat → Prop} (_ : ∀ j, (f = true → F.N j) → q j), All2 (SCRep w q) us xs
  | [], _, .nil, f, _, xs, l, hx, q, _ => by
    have := run_ret hx; cases this
    exact .nil
  | c :: cs, _, .cons hu hus, f, hf, xs, l, hx, q, hq => by
    obtain ⟨⟨x, l1⟩, h1, hx⟩ := run_bind_some hx
    obtain ⟨⟨ys, l2⟩, h2, hx⟩ := run_bind_some hx
    have := run_ret hx; cases this
    obtain ⟨f1, g1, hf⟩ := run_bind_some hf
    obtain ⟨f2, g2, hf⟩ := run_bind_some hf
    have := run_ret hf; cases this
    simp only [Bool.and_eq_true] at hq
    exact .cons (rfC_ok h hu g1 h1 fun j hj => hq j fun e => hj e.1) (rfCs_ok h hus g2 h2 fun j hj => hq j fun e => hj e.2)
theorem rfs_ok (h : Sat F σ a w g) : ∀ (l : List Operand) (ds : List DA) (ls bs : List Nat) (_ : (argsR l).run (get σ) = some (ds, ls, bs)) {f : Bool} (_ : (rfs l).run (get σ) = some f) {q : Nat → Prop} (_ : ∀ j, (f = true → F.N j) → q j), All2 (QRep w q) (l.map a.eval) ds
  | [], ds, ls, bs, hr, f, _, q, _ => by
    have := run_ret hr; cases this
    exact .nil
  | x :: l, ds, ls, bs, hr, f, hf, q, hq => by
    obtain ⟨v, hv, hr⟩ := run_bind_some hr
    obtain ⟨⟨d1, l1, b1⟩, h1, hr⟩ := run_bind_some hr
    obtain ⟨⟨d2, l2, b2⟩, h2, hr⟩ := run_bind_some hr
    have := run_ret hr; cases this
    obtain ⟨v', hv', hf⟩ := run_bind_some hf
    rw [hv] at hv'
    cases hv'
    obtain ⟨f1, g1, hf⟩ := run_bind_some hf
    obtain ⟨f2, g2, hf⟩ := run_bind_some hf
    have := run_ret hf; cases this
    simp only [Bool.and_eq_true] at hq
    refine .cons ?_ (rfs_ok h l _ _ _ h2 g2 fun j hj => hq j fun e => hj e.2)
    replace hq : ∀ j, (f1 = true → F.N j) → q j := fun j hj => hq j fun e => hj e.1
    have hv2 := opv_ok h hv
    unfold argR at h1
    split at h1
    · obtain ⟨⟨x1, x2⟩, hx, h1⟩ := run_bind_some h1
      have := run_ret h1; cases this
      exact rfC_ok h hv2 g1 hx hq
    · obtain ⟨⟨x1, x2⟩, hx, h1⟩ := run_bind_some h1
      have := run_ret h1; cases this
      obtain ⟨us0, hu0, hall⟩ := hv2
      exact ⟨us0, hu0, rfCs_ok h hall g1 hx hq⟩
    · rename_i i lo hi
      have h1' := run_ask h1
      have g1' := run_ask g1
      split at h1'
      · rename_i own fr d hd
        rw [hd] at g1'
        have := run_ret g1'; cases this
        obtain ⟨hx1, hx2, hx3, A, len, cap, hx4, hx5⟩ := hv2
        obtain ⟨_, ⟨hw, hl⟩, h4⟩ := h.row i _ _ _ hd
        have hrow : RowRep w q (g.rv i) d := by
          cases own with
          | true =>
            obtain ⟨⟨e, _, ho, hkb⟩, hb⟩ := h4
            exact ho.row (rg_all (fun j hj => hq j hj.2) fun j hj => hq j (hb j hj).2.2) fun j hj => hq j (hb j (hkb.out j hj)).2.2
          | false => exact RowRep.chg (Chg.refl (fun _ => False) w) (fun _ _ h => h) (fun j hj => hq j hj.2) h4
        have hsub : SCRep w q (a.eval x) (.row (d.sub lo hi)) := by
          rw [hx4] at hrow
          have e : len = d.len := by obtain ⟨_, _, e, _⟩ := hrow; injection e with _ e _
          subst e
          rw [hx5, hw]
          exact RowRep.sub hrow hx2 (by rw [← hl]; exact hx3)
        cases own with
        | true => have := run_ret h1'; cases this; exact hsub
        | false => have := run_ret h1'; cases this; exact hsub
      · cases h1'
    · rename_i b
      have h1' := run_ask h1
      split at h1'
      · obtain ⟨⟨x1, x2⟩, hx, h1⟩ := run_bind_some h1'
        have := run_ret h1; cases this
        exact trivial
      · cases h1'
    · cases h1
theorem argsR_QRep {w : World} {p B : Nat → Prop} {us : List Value} {ds : List DA} {bs : List Nat} (h : ArgsRep w p B us ds bs) : All2 (QRep w p) us ds := by
  induction h with
  | nil => exact .nil
  | c h _ ih => exact .cons h ih
  | agg h _ ih => exact .cons ⟨_, rfl, h⟩ ih
  | bx _ _ _ _ ih => exact .cons trivial ih
theorem QRep.qmono {w : World} {p q : Nat → Prop} {u : Value} {d : DA} (h : QRep w p u d) (hp : ∀ j, p j → q j) : QRep w q u d := by
  cases d with
  | c x => exact SCRep.mono h hp
  | agg xs => obtain ⟨us, h1, h2⟩ := h; exact ⟨us, h1, h2.imp fun _ _ h' => h'.mono hp⟩
  | bx xs => trivial
/-- The tables are still there, and no box that is lent is one. -/
theorem gl_now (hF : F.ek = cx.ek) (h : Sat F σ a w g) {ls bs : List Nat} (hb : ∀ b ∈ bs, BoxLs σ ls b) : GlW cx.ek w (bs.map g.bb) := by
  have key : ∀ n, n < F.w0.heap.size → n ∉ F.pb → (n < w.heap.size ∧ n ∉ bs.map g.bb) ∧ w.heap[n]? = F.w0.heap[n]? := fun n h1 h2 => by
    refine ⟨⟨Nat.lt_of_lt_of_le h1 h.chg.size, fun hn => ?_⟩, h.chg.block n h1 h2⟩
    obtain ⟨b, hb1, rfl⟩ := List.mem_map.1 hn
    obtain ⟨cs, hcs, _⟩ := hb b hb1
    obtain ⟨_, us, ty, _, _, _, h5⟩ := h.box b cs hcs
    have := h.base
    rcases h5 with h5 | h5
    · omega
    · exact h2 h5
  refine ⟨fun n k xs hm => ?_, fun n b hm => ?_⟩
  · obtain ⟨⟨h1, h2⟩, h3⟩ := F.gl.tab n k xs (by rw [hF]; exact hm)
    obtain ⟨k1, k2⟩ := key n h1 h2
    exact ⟨k1, by rw [k2]; exact h3⟩
  · obtain ⟨⟨h1, h2⟩, h3⟩ := F.gl.one n b (by rw [hF]; exact hm)
    obtain ⟨k1, k2⟩ := key n h1 h2
    exact ⟨k1, by rw [k2]; exact h3⟩
/-- A call: what the oracle says comes true. -/
theorem SCRep.shal {w : World} {A : Nat → Prop} {u : Value} {x : SC} (h : SCRep w A u x) : SCRep w A u x.shal := by
  cases x with
  | sc v => exact h
  | row d => exact RowRep.shal h
theorem ArgsRep.shal {w : World} {A B : Nat → Prop} {us : List Value} {ds : List DA} {bs : List Nat} (h : ArgsRep w A B us ds bs) : ArgsRep w A B us (ds.map DA.shal) bs := by
  induction h with
  | nil => exact .nil
  | c h _ ih => exact .c h.shal ih
  | agg h _ ih => exact .agg (h.imp fun _ _ h' => SCRep.shal h').map_right ih
  | bx h0 h hA _ ih => exact .bx h0 h hA ih
theorem ArgsRep.pick {w : World} {A B : Nat → Prop} {us : List Value} {ds : List DA} {bs : List Nat} (h : ArgsRep w A B us ds bs) (cx : Cx) (f : FuncId) : ArgsRep w A B us (pickA cx f ds) bs := by
  unfold pickA
  split
  · exact h
  · exact h.shal
theorem pick_known {cx : Cx} {f : FuncId} {ds : List DA} (h : knows cx f ds = true) : pickA cx f ds = ds := by
  unfold knows at h
  unfold pickA
  split
  · rfl
  · rename_i e
    rw [e] at h
    cases h
theorem call_ok (hΦ : Sound P cx.ek cx.Φ) (hF : F.ek = cx.ek) (h : Sat F σ a w g) {o : Oper} (hd : dstOk F.nt o.dst = true) {id : Nat} {f : FuncId} {c : Call} (ho : o.op = .call c) (hc : c.callee = .value (.func f)) {ws : List (Loc × Ct)} (hr : (callR cx id o.dst f c.args.toList).run (get σ) = some ws)
    {next : Act → World → Prop} {Q : Exit → Act → World → Prop} (hn : ∀ v w' g', Sat F (push ws σ) (a.put o.dst v) w' g' → next (a.put o.dst v) w') : o.wp P a w next Q := by
  obtain ⟨⟨ds, ls, bs⟩, hargs, hr⟩ := run_bind_some hr
  simp only at hr
  split at hr
  · cases hr
  · rename_i sp hsp
    obtain ⟨hpre, hr⟩ := run_test hr
    obtain ⟨⟨fn, hfn, hbody, hname⟩, hcall, hcallG⟩ := hΦ f (pickA cx f ds) sp hsp hpre
    have hrun : (execOp a.eval o).run P w = .ok (.enter f (c.args.toList.map a.eval).toArray) w := by
      have he : (c.args.map a.eval) = (c.args.toList.map a.eval).toArray := by
        apply Array.toList_inj.1; simp
      simp only [execOp, ho, resolve, hc, Act.eval, Deferred.ofValue, invoke, callFunc, Sem.run_bind, Sem.run_pure, Result.andThen_ok, run_program]
      rw [hfn]
      simp [hname, hbody]
      cases hb : fn.body with
      | none => simp [hb] at hbody
      | some bd => simp [hb, he]
    by_cases hgive : isGive sp.mode = true
    · rw [hgive] at hr
      obtain ⟨hkn, hr⟩ := run_test hr
      rw [pick_known hkn] at hcallG
      have := give_ok hF h hd hargs (hcallG hgive) hr hn
      unfold Oper.wp
      rw [hrun]
      refine this.mono fun e w' hpost => ?_
      obtain ⟨v, rfl, hN⟩ := hpost
      exact hN
    have hgive : isGive sp.mode = false := by simpa using hgive
    rw [hgive] at hr
    replace hcall := hcall hgive
    obtain ⟨⟨fl, ow⟩, hbx, hr⟩ := run_bind_some hr
    obtain ⟨af, haf, hr⟩ := run_bind_some hr
    obtain ⟨fz, hfz, hr⟩ := run_bind_some hr
    obtain ⟨os, hos, hr⟩ := run_bind_some hr
    obtain ⟨⟨rv, rw'⟩, hres, hr⟩ := run_bind_some hr
    obtain rfl := run_ret hr
    simp only at hbx hfz hos hres hn
    obtain ⟨hls, hbs, harg⟩ := argsR_ok h _ _ _ _ hargs
    have hbs1 : bs = [] ∧ os = [] ∧ sp.outs = [] ∨ ∃ b cs, bs = [b] ∧ sp.outs = [cs] ∧ os = [(.b b, .box (cs.map (scCell fl)))] := by
      have gen : ∀ outs, (outsW fl bs outs).run (get σ) = some os → (bs = [] ∧ os = [] ∧ outs = []) ∨ ∃ b cs, bs = [b] ∧ outs = [cs] ∧ os = [(.b b, .box (cs.map (scCell fl)))] := fun outs ho => by
        unfold outsW at ho
        split at ho
        · have := run_ret ho; exact .inl ⟨rfl, this.symm, rfl⟩
        · have := run_ret ho; exact .inr ⟨_, _, rfl, rfl, this.symm⟩
        · cases ho
      exact gen _ hos
    have hnd : (bs.map g.bb).Nodup := by rcases hbs1 with ⟨rfl, _⟩ | ⟨b, cs, rfl, _⟩ <;> simp
    have hAlt : ∀ j, lentA g ls j → j < w.heap.size := fun j hj => hj.elim (h.gb j) fun ⟨i, hi, e⟩ => by obtain ⟨fr, d, hd⟩ := hls i hi; exact h.own_lt hd e
    -- the freezing
    have hfreeze : ∃ g1, Sat F (push fz σ) a w g1 ∧ g.le g1 ∧ (g1.rv = g.rv ∧ g1.ob = g.ob) ∧ ((isAlias sp.mode || hasBx sp.res || ow) = true → ∀ j, lentA g ls j → g1.G j) ∧ ∀ p ∈ fz, ∃ i fr d, p = (.r i, .row false fr d) := by
      split at hfz
      · rename_i hflag
        obtain ⟨g1, e1, e2, e3, e4, e5⟩ := freezeW_ok h (get σ) (l := ls) (fun i hi => by obtain ⟨fr, d, hd⟩ := hls i hi; exact ⟨fr, d, .inl hd, hd⟩) (fun i hi hex => by
          obtain ⟨fr, d, hd⟩ := hls i hi
          obtain ⟨fr', d', hd'⟩ := hex
          rw [hd] at hd'; cases hd') hfz
        exact ⟨g1, e1, e2, e3, fun _ j hj => hj.elim (e2.G j) fun ⟨i, hi, e⟩ => e4 i hi j e, e5⟩
      · rename_i hflag
        have := run_ret hfz
        subst this
        exact ⟨g, h, g.le_refl, ⟨rfl, rfl⟩, fun hf => (by rw [hf] at hflag; cases hflag), fun p hp => (by cases hp)⟩
    obtain ⟨g1, hs1, hle1, hrv1, hall1, hfzr⟩ := hfreeze
    -- what the boxes lead to
    let B : Nat → Prop := fun j => (g1.G j ∧ (fl = true → F.N j)) ∧ lentA g ls j
    have hBin : ∀ b ∈ bs, BoxIn w σ g B b := fun b hb cs hcs us xs l ty hus hxs => by
      obtain ⟨cs0, hcs0, xs0, l0, hxs0, hl0⟩ := hbs b hb
      rw [hcs] at hcs0; cases hcs0
      rw [hxs] at hxs0; cases hxs0
      have hbx' : (bxCs cs).run (get σ) = some (fl, ow) := by
        rcases hbs1 with ⟨rfl, _⟩ | ⟨b', cs', rfl, _⟩
        · cases hb
        · simp only [List.mem_singleton] at hb
          subst hb
          have hb' := run_ask hbx
          rw [hcs] at hb'
          exact hb'
      obtain ⟨_, us', ty', hus', hall, _⟩ := h.box b cs hcs
      rw [hus] at hus'
      have e : us = us' := by injection hus' with e; injection e with e _; simpa using e
      subst e
      exact bxCs_ok h (fun j hj hN => ⟨⟨hle1.G j hj, hN⟩, .inl hj⟩) hall hbx' (fun e => e) hxs fun ho i hi j hj hN => ⟨⟨hall1 (by rw [ho]; simp) j (.inr ⟨i, hl0 i hi, hj⟩), hN⟩, .inr ⟨i, hl0 i hi, hj⟩⟩
    let Q : Nat → Prop := fun j => (sp.mode = .alias → af = true → F.N j) ∨ B j
    have hQ : All2 (QRep w Q) (c.args.toList.map a.eval) ds := by
      by_cases hmd : sp.mode = .alias
      · rw [hmd] at haf
        exact rfs_ok h _ _ _ _ hargs haf fun j hj => .inl fun _ => hj
      · exact (argsR_QRep (harg ls (fun _ hi => hi) hls B hBin)).imp fun _ d hd => hd.qmono fun j _ => .inl fun e => absurd e hmd
    have hargs' := (harg ls (fun _ hi => hi) hls B hBin).and hQ
    have hcalls := hcall w _ B _ _ (hargs'.pick cx f) hnd (fun j hj => hAlt j hj.1) (fun j hj => ⟨hj.2, .inr hj⟩) (gl_now hF h hbs)
    unfold Oper.wp
    rw [hrun]
    refine hcalls.mono fun e w' hpost => ?_
    obtain ⟨v, rfl, hch, G', hG', houts, hresr⟩ := hpost
    show next (a.put o.dst v) w'
    have hbase : F.base ≤ w.heap.size := by have := h.base; have := h.chg.size; omega
    -- the boxes
    have hboxes : ∃ g2, Sat F (push os (push fz σ)) a w' g2 ∧ g1.le g2 ∧ (∀ j, G' j → g2.G j) ∧ (∀ n, w.heap.size ≤ n → ¬ G' n → Priv F (push os (push fz σ)) g2 n) := by
      have hG1 : ∀ (τ : St) (w1 : World), w1.heap.size = w.heap.size → Sat F τ a w g1 → Sat F τ a w' g1 → Sat F τ a w' (g1.addG G') := fun τ w1 _ ht ht' => ht'.moreG fun j hj => by
        rcases hG' j hj with hj | hj
        · exact ⟨hj.2, fun i fr d hi e => by have := ht.own_lt hi e; omega, fun c cs hcb e => by
            obtain ⟨_, us, ty, h2, _⟩ := ht.box c cs hcb
            have := (Array.getElem?_eq_some_iff.1 h2).1
            omega, .inr (.inr (Nat.le_trans hbase hj.1))⟩
        · exact ⟨ht'.gb j hj.1.1, fun i fr d hi e => by obtain ⟨_, _, _, h4⟩ := ht'.row i _ _ _ hi; exact (h4 j e).1 hj.1.1, fun c cs hcb e => by
            obtain ⟨_, us, ty, _, _, h4, _⟩ := ht'.box c cs hcb
            exact h4 (e ▸ hj.1.1), ht'.ga j hj.1.1⟩
      have hpriv : ∀ (τ : St), Sat F τ a w g1 → ∀ n, w.heap.size ≤ n → ¬ G' n → Priv F τ (g1.addG G') n := fun τ ht n hn1 hn2 => by
        have := ht.fresh hn1
        exact ⟨fun hg => hg.elim this.ng hn2, this.row, this.box, this.base⟩
      rcases hbs1 with ⟨rfl, rfl, _⟩ | ⟨b, cs, rfl, hso, rfl⟩
      · have hs' := hs1.world (hch.mono fun j _ hj => (by simp at hj)) (X := fun _ => False) fun _ _ hx => hx.elim
        exact ⟨_, hG1 _ w rfl hs1 hs', g1.addG_le _, fun j hj => .inr hj, hpriv _ hs1⟩
      · obtain ⟨cs0, hcs0, _⟩ := hbs b (by simp)
        have hcs1 : get (push fz σ) (.b b) = .box cs0 := by rw [get_push_rows hfzr (by simp)]; exact hcs0
        have hbb : g1.bb b = g.bb b := hle1.bb b (h.box b cs0 hcs0).1
        obtain ⟨hk1, hk2⟩ := hs1.killBox hcs1
        have hs' := hk1.world hch fun j _ hj => by
          simp only [List.map_cons, List.map_nil, List.mem_singleton] at hj
          rw [hj, ← hbb]; exact hk2
        have hs2 := hG1 _ w rfl hk1 hs'
        have hdb : g1.db b := (hs1.box b cs0 hcs1).1
        have hlt : g1.bb b < w.heap.size := by
          obtain ⟨_, us, ty, h2, _⟩ := hs1.box b cs0 hcs1
          exact (Array.getElem?_eq_some_iff.1 h2).1
        rw [hso] at houts
        cases houts with
        | cons ho1 ho2 =>
          obtain ⟨us, ty, hus1, hus2⟩ := ho1
          have hp2 : Priv F ((.b b, .dead) :: push fz σ) (g1.addG G') ((g1.addG G').bb b) :=
            ⟨fun hg => hg.elim hk2.ng fun hg => (hG' _ hg).elim (fun hg => by have h1 : w.heap.size ≤ g1.bb b := hg.1; omega) fun hg => hk2.ng hg.1.1, hk2.row, hk2.box, hk2.base⟩
          have hs3 := hs2.reBox (b := b) hdb hp2 (cs := cs.map (scCell fl)) (us := us) (ty := ty) (by show w'.heap[g1.bb b]? = _; rw [hbb]; exact hus1) (sc_cells (fun j hj => ⟨.inr hj, fun e => (hG' j hj).elim (fun h1 => F.hN _ (Nat.le_trans hbase h1.1)) fun h1 => h1.1.2 e⟩) hus2)
          have hex : ∀ l, get ((Loc.b b, Ct.box (cs.map (scCell fl))) :: push fz σ) l = get ((Loc.b b, Ct.box (cs.map (scCell fl))) :: (.b b, .dead) :: push fz σ) l := fun l => by
            by_cases e : l = .b b
            · subst e; rw [get_same, get_same]
            · rw [get_other e, get_other e, get_other e]
          refine ⟨g1.addG G', hs3.ext hex, g1.addG_le _, fun j hj => .inr hj, fun n hn1 hn2 => ?_⟩
          have hp := hpriv _ hk1 n hn1 hn2
          refine ⟨hp.ng, fun i fr d hi => hp.row i fr d (by
            rw [push_cons, push_nil, get_other (by simp)] at hi
            rw [get_other (by simp)]; exact hi), fun c cs2 hcb => ?_, hp.base⟩
          by_cases e : c = b
          · subst e
            intro e2
            have : g1.bb c = n := e2
            omega
          · exact hp.box c cs2 (by rw [get_other (Loc.b_ne e)]; rw [push_cons, push_nil, get_other (Loc.b_ne e)] at hcb; exact hcb)
    obtain ⟨g2, hs2, hle2, hGG, hpriv⟩ := hboxes
    rw [push_append, push_append, push_append] at hn
    -- the result
    have hnew : ∀ (l : Loc), (∀ i, l ≠ .b i ∨ ∀ b ∈ bs, i ≠ b) → (∀ i, l = .r i → get σ l = .no) → get σ l = .no → get (push os (push fz σ)) l = .no := fun l hl1 hl2 hl3 => by
      have hz : get (push fz σ) l = .no := by
        by_cases hex : ∃ p ∈ fz, p.1 = l
        · exfalso
          obtain ⟨p, hp, e⟩ := hex
          obtain ⟨i, fr, d, rfl⟩ := hfzr p hp
          -- a frozen row was there
          have hmem : ∀ (l0 : List Nat) (ws0 : List (Loc × Ct)), (freezeW l0).run (get σ) = some ws0 → ∀ p ∈ ws0, ∃ i o fr d, p.1 = .r i ∧ get σ (.r i) = .row o fr d := by
            intro l0
            induction l0 with
            | nil => intro ws0 h0 p hp; have := run_ret h0; cases this; cases hp
            | cons i0 l0 ih =>
              intro ws0 h0 p hp
              have h0' := run_ask h0
              split at h0'
              · rename_i o0 fr0 d0 hd0
                obtain ⟨ws1, hw1, h2⟩ := run_bind_some h0'
                have := run_ret h2; cases this
                rcases List.mem_cons.1 hp with rfl | hp
                · exact ⟨i0, o0, fr0, d0, rfl, hd0⟩
                · exact ih ws1 hw1 p hp
              · cases h0'
          split at hfz
          · obtain ⟨i', o', fr', d', e1, e2⟩ := hmem _ _ hfz _ hp
            simp only at e e1
            rw [← e, e1, e2] at hl3
            cases hl3
          · have := run_ret hfz
            subst this
            cases hp
        · rw [get_push_other fun p hp e => hex ⟨p, hp, e⟩]; exact hl3
      rcases hbs1 with ⟨_, rfl, _⟩ | ⟨b, cs, rfl, _, rfl⟩
      · exact hz
      · rw [push_cons, push_nil, get_other (fun e => by
          rcases hl1 b with h1 | h1
          · exact h1 e
          · exact h1 b (by simp) rfl)]
        exact hz
    have hGb : ∀ j, G' j → PG g2 F.N fl j := fun j hj => ⟨hGG j hj, fun e => (hG' j hj).elim (fun h1 => F.hN _ (Nat.le_trans hbase h1.1)) fun h1 => h1.1.2 e⟩
    cases hm : sp.mode with
    | mix ows =>
      rw [hm] at hres hresr
      obtain ⟨vs, hvs, hav⟩ := mixR_ok (F := F) hres
      obtain ⟨us, bl, rfl, hdm, hnd2, hbl⟩ := hresr
      obtain ⟨g3, e1, e2, e3⟩ := mixVs_ok hF hdm hvs hs2 (fun i _ hn => hnew _ (fun i => .inl (by simp)) (fun _ _ => hn) hn) hGb (fun ha j hj => hle2.G j (hall1 (by rw [hm]; simp [isAlias, ha]) j hj.1)) (fun b hb => ⟨hpriv b (hbl b hb).1 (hbl b hb).2, F.hN _ (Nat.le_trans hbase (hbl b hb).1)⟩) hnd2
      exact hn _ w' _ (wr_dst e1 hd (hav _ _ _ e3))
    | fresh =>
      rw [hm] at hres hresr
      by_cases hbx : ∃ cs, sp.res = [.bx cs]
      · obtain ⟨cs, hcs⟩ := hbx
        rw [hcs] at hres hresr
        obtain ⟨n, rfl, hn1, hn2, us, ty, hn3, hn4⟩ := hresr
        obtain ⟨hno, hres⟩ := newLoc_ok hres
        have := run_ret hres; cases this
        have hgb : get (push os (push fz σ)) (.b id) = .no := hnew _ (fun i => by
          by_cases e : i = id
          · right; intro b hb e2
            subst e2; subst e
            obtain ⟨cs0, hcs0, _⟩ := hbs _ hb
            rw [hno] at hcs0; cases hcs0
          · left; exact fun e2 => e (by injection e2 with e2; exact e2.symm)) (fun i e => by cases e) hno
        have hflag : (isAlias sp.mode || hasBx sp.res || ow) = true := by rw [hcs]; simp [hasBx]
        have hs3 := hs2.newBox hgb hn3 (sc_cells (fr := false) (fun j hj => ⟨hj.elim (fun hA => hle2.G j (hall1 hflag j hA.1)) (hGG j), fun e => by cases e⟩) hn4) (hpriv n hn1 hn2)
        exact hn _ w' _ (wr_dst hs3 hd ⟨.inr rfl, congrArg (fun x => Value.pointer (some ⟨x, 0, none⟩)) (if_pos rfl).symm⟩)
      · have hres' : (resN fl sp.res).run (get σ) = some (rv, rw') ∧ ∃ vs, v = tupV vs ∧ All2 (DARep w' G') vs sp.res := by
          cases hsr : sp.res with
          | nil => rw [hsr] at hres hresr; exact ⟨hres, hresr⟩
          | cons x l => rw [hsr] at hres hresr hbx; cases x with
            | c y => exact ⟨hres, hresr⟩
            | agg y => exact ⟨hres, hresr⟩
            | bx y => cases l with
              | nil => exact absurd ⟨y, rfl⟩ hbx
              | cons z l => exact ⟨hres, hresr⟩
        obtain ⟨hres2, vs, rfl, hall⟩ := hres'
        obtain ⟨rfl, hav⟩ := resN_ok (F := F) (g := g2) hGb hall hres2
        exact hn _ w' _ (wr_dst hs2 hd hav)
    | alias =>
      rw [hm] at hres hresr
      have hflag : (isAlias sp.mode || hasBx sp.res || ow) = true := by rw [hm]; rfl
      have hAG : ∀ j, ((lentA g ls j ∧ Q j) ∨ G' j) → PG g2 F.N (af && fl) j := fun j hj => ⟨hj.elim (fun hA => hle2.G j (hall1 hflag j hA.1)) (hGG j), fun e => by
        simp only [Bool.and_eq_true] at e
        exact hj.elim (fun hA => hA.2.elim (fun hq => hq hm e.1) fun hb => hb.1.2 e.2) fun hg => (hGb j hg).2 e.2⟩
      by_cases hbx : ∃ cs, sp.res = [.bx cs]
      · obtain ⟨cs, hcs⟩ := hbx
        rw [hcs] at hres hresr
        obtain ⟨n, rfl, hn1, hn2, us, ty, hn3, hn4⟩ := hresr
        obtain ⟨hno, hres⟩ := newLoc_ok hres
        have := run_ret hres; cases this
        have hgb : get (push os (push fz σ)) (.b id) = .no := hnew _ (fun i => by
          by_cases e : i = id
          · right; intro b hb e2
            subst e2; subst e
            obtain ⟨cs0, hcs0, _⟩ := hbs _ hb
            rw [hno] at hcs0; cases hcs0
          · left; exact fun e2 => e (by injection e2 with e2; exact e2.symm)) (fun i e => by cases e) hno
        have hs3 := hs2.newBox hgb hn3 (sc_cells hAG hn4) (hpriv n hn1 hn2)
        exact hn _ w' _ (wr_dst hs3 hd ⟨.inr rfl, congrArg (fun x => Value.pointer (some ⟨x, 0, none⟩)) (if_pos rfl).symm⟩)
      · have hres' : (resN (af && fl) sp.res).run (get σ) = some (rv, rw') ∧ ∃ vs, v = tupV vs ∧ All2 (DARep w' fun j => (lentA g ls j ∧ Q j) ∨ G' j) vs sp.res := by
          cases hsr : sp.res with
          | nil => rw [hsr] at hres hresr; exact ⟨hres, hresr⟩
          | cons x l => rw [hsr] at hres hresr hbx; cases x with
            | c y => exact ⟨hres, hresr⟩
            | agg y => exact ⟨hres, hresr⟩
            | bx y => cases l with
              | nil => exact absurd ⟨y, rfl⟩ hbx
              | cons z l => exact ⟨hres, hresr⟩
        obtain ⟨hres2, vs, rfl, hall⟩ := hres'
        obtain ⟨rfl, hav⟩ := resN_ok (F := F) (g := g2) hAG hall hres2
        exact hn _ w' _ (wr_dst hs2 hd hav)
    | take => rw [hm] at hgive; cases hgive
    | write => rw [hm] at hgive; cases hgive
end
end Vx
/- One operation, any of them, with its guard. -/
namespace Vx
open Go Go.RowKit

section
variable {P : Program} {cx : Cx} {F : Fr} {σ : St} {a : Act} {w : World} {g : Gm}
theorem rkOfElem_ok (htab : TabOk P cx) {t : TypeId} {ek : TypeId × RK} {G : Loc → Ct} (h : (rkOfElem cx t).run G = some ek) : P.underlying t = some (.slice ek.1) ∧ alook cx.ek.ts ek.1 = some ek.2 := by
  obtain ⟨ti, hti, h⟩ := run_bind_some h
  have hu := (htab.ti t ti (run_tio hti)).und
  split at h
  · rename_i e hk
    obtain ⟨k, hk', h⟩ := run_bind_some h
    obtain rfl := run_ret h
    rw [hk] at hu
    exact ⟨hu, run_eko hk'⟩
  · cases h
theorem tio_ok (htab : TabOk P cx) {t : TypeId} {ti : TI} {G : Loc → Ct} (h : (cx.tio t).run G = some ti) : TIok P t ti := htab.ti t ti (run_tio h)
theorem zcInts_ok {k : IntKind} : ∀ (n : Nat) (l : List ZC), zcInts k n l = true → l.map zval = List.replicate n (Value.int k 0)
  | 0, [], _ => rfl
  | 0, _ :: _, h => by cases h
  | n + 1, [], h => by cases h
  | n + 1, z :: l, h => by
    cases z with
    | int k' =>
      simp only [zcInts, Bool.and_eq_true] at h
      obtain rfl := IntKind.eqb_iff.1 h.1
      rw [List.map_cons, zcInts_ok n l h.2]; rfl
    | _ => cases h
theorem isSome'_ok {x : Option TypeId} {t : TypeId} (h : isSome' x t = true) : x = some t := by
  cases x with
  | none => cases h
  | some u => exact congrArg some (Nat.eq_of_beq_eq_true h)
theorem all2_repl {α β : Type} {R : α → β → Prop} {a : α} {b : β} (n : Nat) (h : R a b) : All2 R (List.replicate n a) (List.replicate n b) := by
  induction n with
  | zero => exact .nil
  | succ n ih => exact .cons h ih
theorem ones_get : ∀ (n j i : Nat) p, (ones n j)[i]? = some p → p = (j + i, 1)
  | 0, _, i, p, h => by simp [ones] at h
  | n + 1, j, 0, p, h => by simp [ones] at h; rw [← h]; rfl
  | n + 1, j, i + 1, p, h => by
    simp only [ones, List.getElem?_cons_succ] at h
    rw [ones_get n (j + 1) i p h, show j + 1 + i = j + (i + 1) by omega]
theorem glook_ok {G : Loc → Ct} : ∀ {l : List (Nat × IntKind × List Int)} {n : Nat} {p : IntKind × List Int}, (glook l n).run G = some p → (n, p) ∈ l
  | [], _, _, h => by cases h
  | (m, q) :: l, n, p, h => by
    unfold glook at h
    split at h
    · rename_i hb
      have := run_ret h
      subst this
      have := Nat.eq_of_beq_eq_true hb
      subst this
      exact List.mem_cons_self
    · exact List.mem_cons_of_mem _ (glook_ok h)
theorem capOf_ok {x y : Operand} {m : Nat} (h : capOf x y = some m) : x = .const (.int .i64 0) ∧ y = .const (.int .i64 m) := by
  unfold capOf at h
  split at h
  · cases h; exact ⟨rfl, rfl⟩
  · cases h
/-- A cell of a package's table. -/
theorem gl_cell {cx : Cx} {F : Fr} {σ : St} {a : Act} {w : World} {g : Gm} (hF : F.ek = cx.ek) (h : Sat F σ a w g) {n : Nat} {k : IntKind} {xs : List Int} (hm : (n, k, xs) ∈ cx.ek.gl) {i : Nat} (hi : i < xs.length) : w.cell? ⟨n, i, none⟩ = some (.int k (xs.getD i 0)) := by
  have hm' : (n, k, xs) ∈ F.ek.gl := by rw [hF]; exact hm
  exact h.chg.cell (F.gl.cell hm' hi) (F.gl.tab n k xs hm').1.2
theorem opvN_ok {cx : Cx} {F : Fr} {σ : St} {a : Act} {w : World} {g : Gm} (h : Sat F σ a w g) {t : TypeId} {x : Operand} {y : AV} (hr : (opvN cx t x).run (get σ) = some y) : AVRep g F.N w (a.eval x) y := by
  unfold opvN at hr
  split at hr
  · obtain ⟨ek, _, hr⟩ := run_bind_some hr
    obtain rfl := run_ret hr
    have e : (Row.nil ek.2).len = 0 := by cases ek.2 <;> rfl
    exact ⟨none, 0, by rw [e]; rfl, by rw [e]; exact Nat.le_refl _, fun h0 => by rw [e] at h0; exact absurd h0 (Nat.lt_irrefl _)⟩
  · exact opv_ok h hr
theorem viewR_some {v p : AV} {G : Loc → Ct} {q : AV × List (Loc × Ct)} (h : (viewR v p).run G = some q) : q = (v, []) ∨ ∃ i lo hi b off own fr d, v = .vw i lo hi ∧ p = .bx b off ∧ d.deep = false ∧ G (.r i) = .row own fr d ∧ q = (.v (.cell (.ro fr (d.sub lo hi))), [(.r i, .row false fr d)]) := by
  unfold viewR at h
  split at h
  · rename_i i lo hi b off
    have h' := run_ask h
    split at h'
    · rename_i own fr d hd
      obtain ⟨hdp, h'⟩ := run_test h'
      obtain rfl := run_ret h'
      exact .inr ⟨i, lo, hi, b, off, own, fr, d, rfl, rfl, shallow hdp, hd, rfl⟩
    · cases h'
  · exact .inl (run_ret h).symm
theorem upK_cases (dp : Bool) (k : RK) : upK dp k = k ∨ (k = .eqs ∧ upK dp k = .deqs) := by
  cases dp <;> cases k <;> first
    | exact .inl rfl
    | exact .inr ⟨rfl, rfl⟩
theorem makeUp_ok (htab : TabOk P cx) (hF : F.ek = cx.ek) (h : Sat F σ a w g) {t e : TypeId} (hu : P.underlying t = some (.slice e)) {k : RK} (hk : alook cx.ek.ts e = some k) {n : Int} (h0 : 0 ≤ n) (hn : n < (two40 : Int)) {id : Nat} (hid : get σ (.r id) = .no) :
    ∃ v w' g', (Instr.makeSlice t (.int .i64 n) (.int .i64 n)).run P w = .ok v w' ∧ Sat F ((.r id, .row true true (replR (upK cx.dp k) n.toNat)) :: σ) a w' g' ∧ AVRep g' F.N w' v (.v (.cell (.ref id))) := by
  rcases upK_cases cx.dp k with e | ⟨e1, e2⟩
  · rw [e]
    exact makeSlice_ok htab hF h hu hk h0 hn hid
  · rw [e2]
    rw [e1] at hk
    exact makeDeep_ok htab hF h hu hk h0 hn hid
theorem eff_ok (htab : TabOk P cx) (hΦ : Sound P cx.ek cx.Φ) (hF : F.ek = cx.ek) (h : Sat F σ a w g) {o : Oper} (hd : dstOk F.nt o.dst = true) {id : Nat} {ws : List (Loc × Ct)} (hr : (eff cx id o).run (get σ) = some ws)
    {next : Act → World → Prop} {Q : Exit → Act → World → Prop} (hn : ∀ v w' g', Sat F (push ws σ) (a.put o.dst v) w' g' → next (a.put o.dst v) w') : o.wp P a w next Q := by
  -- a value, the world as it was
  have val : ∀ (v : Value) (x : AV), (execOp a.eval o).run P w = .ok (.value v) w → AVRep g F.N w v x → ws = wr o.dst x → o.wp P a w next Q := fun v x e1 e2 e3 => by
    subst e3
    exact wp_value e1 (hn v w g (wr_dst h hd e2))
  have val' : ∀ (v : Value) (x : AV) (s : Sem Value), execOp a.eval o = (do pure (.value (← s))) → s.run P w = .ok v w → AVRep g F.N w v x → ws = wr o.dst x → o.wp P a w next Q := fun v x s e0 e1 e2 e3 =>
    val v x (by rw [e0]; simp [e1]) e2 e3
  have valS : ∀ (v : Value), (execOp a.eval o).run P w = .ok (.value v) w → ws = wr o.dst (.v (.cell (.sc v))) → o.wp P a w next Q := fun v e1 e3 => val v (.v (.cell (.sc v))) e1 rfl e3
  have valS' : ∀ (v : Value) (s : Sem Value), execOp a.eval o = (do pure (.value (← s))) → s.run P w = .ok v w → ws = wr o.dst (.v (.cell (.sc v))) → o.wp P a w next Q := fun v s e0 e1 e3 => val' v (.v (.cell (.sc v))) s e0 e1 rfl e3
  unfold eff at hr
  split at hr
  · -- move
    rename_i x hop
    split at hr
    · obtain ⟨ek, hek, hr⟩ := run_bind_some hr
      obtain ⟨hno, hr⟩ := newLoc_ok hr
      obtain rfl := run_ret hr
      obtain ⟨hu, hk⟩ := rkOfElem_ok htab hek
      have hs := h.newRowL hno (fr := true) (d := Row.nil (upK cx.dp ek.2)) (v := .slice none 0 0) (l := []) (by rw [nil_kindU (htab.na _ _ hk), upK_ek, hF]; exact (htab.ek _ _ hk).2) (nil_own w _ _ _) (nil_obk w _) (fun b hb => by cases hb)
      exact wp_value (v := .slice none 0 0) (w' := w) (by simp [execOp, hop, Act.eval]) (hn _ w _ (wr_dst hs hd ⟨.inr rfl, (if_pos rfl).symm⟩))
    · obtain ⟨v, hv, hr⟩ := run_bind_some hr
      obtain rfl := run_ret hr
      exact val _ _ (by simp [execOp, hop]) (opv_ok h hv) rfl
  · -- assign
    rename_i x hop
    split at hr
    · obtain ⟨ek, hek, hr⟩ := run_bind_some hr
      obtain ⟨hno, hr⟩ := newLoc_ok hr
      obtain rfl := run_ret hr
      obtain ⟨hu, hk⟩ := rkOfElem_ok htab hek
      have hs := h.newRowL hno (fr := true) (d := Row.nil (upK cx.dp ek.2)) (v := .slice none 0 0) (l := []) (by rw [nil_kindU (htab.na _ _ hk), upK_ek, hF]; exact (htab.ek _ _ hk).2) (nil_own w _ _ _) (nil_obk w _) (fun b hb => by cases hb)
      exact wp_value (v := .slice none 0 0) (w' := w) (by simp [execOp, hop, Act.eval]) (hn _ w _ (wr_dst hs hd ⟨.inr rfl, (if_pos rfl).symm⟩))
    · obtain ⟨v, hv, hr⟩ := run_bind_some hr
      obtain rfl := run_ret hr
      exact val _ _ (by simp [execOp, hop]) (opv_ok h hv) rfl
  · -- pick
    rename_i c x y hop
    obtain ⟨b, hb, hr⟩ := run_bind_some hr
    have hb' := scal_ok h hb
    split at hr
    · rename_i t
      cases t with
      | true =>
        obtain ⟨v, hv, hr⟩ := run_bind_some (m := opv x) hr
        obtain rfl := run_ret hr
        exact val _ _ (by simp [execOp, hop, hb', asBool]) (opv_ok h hv) rfl
      | false =>
        obtain ⟨v, hv, hr⟩ := run_bind_some (m := opv y) hr
        obtain rfl := run_ret hr
        exact val _ _ (by simp [execOp, hop, hb', asBool]) (opv_ok h hv) rfl
    · cases hr
  · -- alloc
    rename_i t hop
    obtain ⟨ti, hti, hr⟩ := run_bind_some hr
    have ht := tio_ok htab hti
    split at hr
    · rename_i k el n hk
      obtain ⟨hts, hr⟩ := run_test hr
      simp only [Bool.and_eq_true] at hts
      obtain ⟨⟨hn1, hn2⟩, hz, hek⟩ := hts
      obtain ⟨hno, hr⟩ := newLoc_ok hr
      obtain rfl := run_ret hr
      obtain ⟨i, z, h1, h2, h3, h4, h5⟩ := ht.inf
      rw [zcInts_ok n ti.zc hz] at h5
      obtain ⟨hs2, hle2⟩ := h.allocRow hno (fr := true) (d := .arr k (List.replicate n 0)) (e := t) (by
        show ekOf F.ek (.arr k (List.replicate n 0).length) = some t
        rw [List.length_replicate, hF]
        exact isSome'_ok hek) (cells := z.cells.toList) (by
          rw [h5]
          simp only [Row.flat, List.map_replicate]
          exact all2_repl n rfl) (by
          have hn2 : n ≤ 1000000 := by simpa using hn2
          simp only [Row.len, List.length_replicate]; omega) rfl
      have hfin := wr_dst (x := .ap id) (v := .pointer (some ⟨w.heap.size, 0, none⟩)) hs2 hd ⟨.inr rfl, _, _, _, if_pos rfl, rfl, rfl⟩
      refine wp_value (v := .pointer (some ⟨w.heap.size, 0, none⟩)) (w' := w.alloc (.cells z.cells.toList.toArray t)) ?_ (hn _ _ _ hfin)
      simp [execOp, hop, Instr.alloc, zeroValue, typeInfo, h1, h4, newVar, newRow]
    obtain ⟨⟨cs, ws'⟩, hz, hr⟩ := run_bind_some hr
    obtain ⟨hno, hr⟩ := newLoc_ok hr
    obtain rfl := run_ret hr
    obtain ⟨hkey, g1, hs1, hle1, hall⟩ := zeroR_ok h cx.dp ti.zc (fun k hk => by rw [hF]; exact htab.nil t ti (run_tio hti) k hk) id cs ws' hz
    obtain ⟨i, z, h1, h2, h3, h4, h5⟩ := ht.inf
    have hno' : get (push ws' σ) (.b id) = .no := by
      rw [get_push_other fun p hp e => by
        obtain ⟨j, _, e'⟩ := hkey p hp
        rw [e'] at e; cases e]
      exact hno
    obtain ⟨hs2, hle2⟩ := hs1.allocBox hno' (us := z.cells.toList) t (by rw [h5]; exact hall)
    have hfin := wr_dst (x := .bx id 0) (v := .pointer (some ⟨w.heap.size, 0, none⟩)) hs2 hd ⟨.inr rfl, congrArg (fun x => Value.pointer (some ⟨x, 0, none⟩)) (if_pos rfl).symm⟩
    rw [← push_cons, ← push_append] at hfin
    refine wp_value (v := .pointer (some ⟨w.heap.size, 0, none⟩)) (w' := w.alloc (.cells z.cells.toList.toArray t)) ?_ (hn _ _ _ hfin)
    simp [execOp, hop, Instr.alloc, zeroValue, typeInfo, h1, h4, newVar, newRow]
  · -- box
    rename_i t x hop
    obtain ⟨v, hv, hr⟩ := run_bind_some hr
    obtain ⟨cs, hcs, hr⟩ := run_bind_some hr
    obtain ⟨hno, hr⟩ := newLoc_ok hr
    obtain rfl := run_ret hr
    have hall := (cellsOf_ok h (opv_ok h hv) hcs).1
    obtain ⟨hs2, hle2⟩ := h.allocBox hno (us := (a.eval x).cells.toList) t hall
    have hfin := wr_dst (x := .bx id 0) (v := .pointer (some ⟨w.heap.size, 0, none⟩)) hs2 hd ⟨.inr rfl, congrArg (fun x => Value.pointer (some ⟨x, 0, none⟩)) (if_pos rfl).symm⟩
    refine wp_value (v := .pointer (some ⟨w.heap.size, 0, none⟩)) (w' := w.alloc (.cells (a.eval x).cells.toList.toArray t)) ?_ (hn _ _ _ hfin)
    simp [execOp, hop, Instr.box, newVar, newRow]
  · -- build
    rename_i t ps hop
    obtain ⟨ti, hti, hr⟩ := run_bind_some hr
    have ht := tio_ok htab hti
    split at hr
    · rename_i fs hk
      obtain ⟨⟨cs, ws'⟩, hz, hr⟩ := run_bind_some hr
      obtain ⟨cs', hf, hr⟩ := run_bind_some hr
      obtain rfl := run_ret hr
      obtain ⟨hkey, g1, hs1, hle1, hall⟩ := zeroR_ok h cx.dp ti.zc (fun k hk => by rw [hF]; exact htab.nil t ti (run_tio hti) k hk) id cs ws' hz
      obtain ⟨i, z, h1, h2, h3, h4, h5⟩ := ht.inf
      have hu := ht.und
      rw [hk] at hu
      obtain ⟨fields, hu, hfs⟩ := hu
      have hpl : ∀ (i : Nat) p, fs[i]? = some p → (fun i => fs.toArray[i]?) i = some p := fun i p hp => by simpa using hp
      obtain ⟨cells', e1, e2⟩ := build_ok h hle1 hpl ps.toList z.cells.toList cs cs' _ rfl (by rw [h5]; exact hall) hf
      have hfin := wr_dst (x := .v (.agg cs')) (v := .agg cells') hs1 hd ⟨cells'.toList, by simp, e2⟩
      rw [← push_append] at hfin
      refine wp_value (v := .agg cells') (w' := w) ?_ (hn _ _ _ hfin)
      have hplaces : (fields.mapM fun f => do pure (f.offset, ← Go.sizeOf f.type) : Sem (Array (Nat × Nat))).run P w = .ok fs.toArray w := by
        rw [Array.mapM_eq_mapM_toList, Sem.run_map, run_places _ _ hfs]
        rfl
      have e1' : Instr.fill (fun i => fs.toArray[i]?) z.cells (ps.map fun (x : Nat × Operand) => (x.1, a.eval x.2)).toList = some cells' := by
        rw [Array.toArray_toList] at e1
        rw [← e1]
        congr 1
        simp
      simp only [execOp, hop, Instr.build, zeroValue, typeInfo, Sem.run_bind, run_program, Result.andThen_ok, h1, Sem.run_pure, h4, run_underlying hu, hplaces]
      simp only [e1']
      rfl
    · rename_i k el n hk
      obtain ⟨te, hte, hr⟩ := run_bind_some hr
      obtain ⟨hts, hr⟩ := run_test hr
      have hts := Nat.eq_of_beq_eq_true hts
      obtain ⟨⟨cs, ws'⟩, hz, hr⟩ := run_bind_some hr
      obtain ⟨cs', hf, hr⟩ := run_bind_some hr
      obtain rfl := run_ret hr
      obtain ⟨hkey, g1, hs1, hle1, hall⟩ := zeroR_ok h cx.dp ti.zc (fun k hk => by rw [hF]; exact htab.nil t ti (run_tio hti) k hk) id cs ws' hz
      obtain ⟨i, z, h1, h2, h3, h4, h5⟩ := ht.inf
      have hu := ht.und
      rw [hk] at hu
      have hpl : ∀ (i : Nat) p, (ones n 0)[i]? = some p → (fun i => some (i * 1, 1)) i = some p := fun i p hp => by rw [ones_get n 0 i p hp]; simp
      obtain ⟨cells', e1, e2⟩ := build_ok h hle1 hpl ps.toList z.cells.toList cs cs' _ rfl (by rw [h5]; exact hall) hf
      have hfin := wr_dst (x := .v (.agg cs')) (v := .agg cells') hs1 hd ⟨cells'.toList, by simp, e2⟩
      rw [← push_append] at hfin
      refine wp_value (v := .agg cells') (w' := w) ?_ (hn _ _ _ hfin)
      have e1' : Instr.fill (fun i => some (i * 1, 1)) z.cells (ps.map fun (x : Nat × Operand) => (x.1, a.eval x.2)).toList = some cells' := by
        rw [Array.toArray_toList] at e1
        rw [← e1]
        congr 1
        simp
      simp only [execOp, hop, Instr.build, zeroValue, typeInfo, Sem.run_bind, run_program, Result.andThen_ok, h1, Sem.run_pure, h4, run_underlying hu.1, run_sizeOf' (tio_ok htab hte), hts]
      simp only [e1']
      rfl
    · cases hr
  · -- buildSlice
    rename_i t n ps hop
    obtain ⟨ek, hek, hr⟩ := run_bind_some hr
    obtain ⟨ht, hr⟩ := run_test hr
    obtain ⟨⟨d, fr, fz⟩, hel, hr⟩ := run_bind_some hr
    obtain ⟨hno, hr⟩ := newLoc_ok hr
    obtain rfl := run_ret hr
    obtain ⟨hu, hk⟩ := rkOfElem_ok htab hek
    simp only [Bool.and_eq_true] at ht
    have hbs : ∃ v w' g', (Instr.buildSlice t n (ps.map fun (i, x) => (i, a.eval x))).run P w = .ok v w' ∧ Sat F (push (fz ++ [(.r id, .row true fr d)]) σ) a w' g' ∧ AVRep g' F.N w' v (.v (.cell (.ref id))) := by
      rcases upK_cases cx.dp ek.2 with e | ⟨e1, e2⟩
      · rw [e] at hel
        exact buildSlice_ok htab hF h hu hk (Nat.eq_of_beq_eq_true ht.1.1) ht.1.2 (by simpa using ht.2) hel hno
      · rw [e2] at hel
        rw [e1] at hk
        exact buildDeep_ok htab hF h hu hk (Nat.eq_of_beq_eq_true ht.1.1) ht.1.2 (by simpa using ht.2) hel hno
    obtain ⟨v, w', g', e1, e2, e3⟩ := hbs
    have hfin := wr_dst e2 hd e3
    rw [push_append, push_cons, push_nil] at hfin
    refine wp_value (v := v) (w' := w') (by simp only [execOp, hop, Sem.run_bind]; rw [e1]; rfl) (hn _ _ g' ?_)
    rw [push_append, push_cons]
    exact hfin
  · -- load
    rename_i t x hop
    obtain ⟨ti, hti, hr⟩ := run_bind_some hr
    obtain ⟨p, hp, hr⟩ := run_bind_some hr
    split at hr
    · rename_i n i
      obtain ⟨⟨k, xs⟩, hq, hr⟩ := run_bind_some hr
      obtain ⟨hts1, hr⟩ := run_test hr
      obtain ⟨hts2, hr⟩ := run_test hr
      simp only [Bool.not_eq_true', decide_eq_true_eq] at hts1 hts2
      have hts := And.intro hts1 hts2
      obtain rfl := run_ret hr
      have e1 : a.eval x = .pointer (some ⟨n, i, none⟩) := opv_ok h hp
      have hc := gl_cell hF h (glook_ok hq) hts.2
      refine val' (.int k (xs.getD i 0)) (.v (.cell (.sc (.int k (xs.getD i 0))))) (Instr.loadAt t (.pointer (some ⟨n, i, none⟩))) (by simp only [execOp, hop, e1]) ?_ rfl rfl
      simp [Instr.loadAt, Instr.sureAddr, loadVar, run_isAgg' (tio_ok htab hti), hts.1, hc]
    obtain ⟨v, hv, hr⟩ := run_bind_some hr
    obtain rfl := run_ret hr
    obtain ⟨u, e1, e2⟩ := load_ok (P := P) h (tio_ok htab hti) (opv_ok h hp) hv
    exact val' u v _ (by simp only [execOp, hop]) e1 e2 rfl
  · -- store
    rename_i t x y hop
    obtain ⟨ti, hti, hr⟩ := run_bind_some hr
    obtain ⟨p, hp, hr⟩ := run_bind_some hr
    obtain ⟨v, hv, hr⟩ := run_bind_some hr
    obtain ⟨q, hq, hr⟩ := run_bind_some hr
    obtain ⟨us, hus, hr⟩ := run_bind_some hr
    obtain ⟨ws', hws, hr⟩ := run_bind_some hr
    obtain rfl := run_ret hr
    have ht := tio_ok htab hti
    have hpp := opv_ok h hp
    have hvv := opvN_ok h hv
    have fin : ∀ w' g', (Instr.storeAt t (a.eval x) (a.eval y)).run P w = .ok () w' → Sat F (push ws' (push q.2 σ)) a w' g' → o.wp P a w next Q := fun w' g' e1 e2 => by
      have hfin := wr_dst (x := .v (.cell (.sc undef))) (v := undef) e2 hd rfl
      rw [← push_append, ← push_append] at hfin
      exact wp_skip' (by simp only [execOp, hop, Sem.run_bind]; rw [e1]; rfl) (hn _ _ _ hfin)
    rcases viewR_some hq with rfl | ⟨i, lo, hi, b, off, own, fr, d, rfl, rfl, hdp, hd0, rfl⟩
    rotate_left
    · · have hstep : ∃ g1, Sat F ((.r i, .row false fr d) :: σ) a w g1 ∧ g.le g1 ∧ g1.rv = g.rv := by
          cases own with
          | true => obtain ⟨g1, e1, e2, ⟨e3, _⟩, _⟩ := h.freeze hd0; rw [shal_flat hdp] at e1; exact ⟨g1, e1, e2, e3⟩
          | false =>
            refine ⟨g, h.ext fun l => ?_, g.le_refl, rfl⟩
            by_cases e : l = .r i
            · subst e; rw [get_same, hd0]
            · exact get_other e _ _
        obtain ⟨g1, s1, le1, rv1⟩ := hstep
        obtain ⟨hx1, hx2, hx3, A, len, cap, hx4, hx5⟩ := hvv
        obtain ⟨_, ⟨hw, hl⟩, _⟩ := h.row i _ _ _ hd0
        have hrow : CellRep g1 F.N w (a.eval y) (.ro fr (d.sub lo hi)) := by
          obtain ⟨_, _, h3⟩ := s1.row i false fr d (get_same _ _ _)
          have h3 : RowRep w (PG g1 F.N fr) (g1.rv i) d := h3
          rw [rv1, hx4] at h3
          have e : len = d.len := by obtain ⟨_, _, e, _⟩ := h3; injection e with _ e _
          subst e
          rw [hx5, hw]
          exact RowRep.sub h3 hx2 (by rw [← hl]; exact hx3)
        have hall := (cellsOf_ok s1 (x := .v (.cell (.ro fr (d.sub lo hi)))) hrow hus).1
        unfold storeR at hws
        have hws' := run_ask hws
        split at hws'
        · rename_i cs hb
          obtain ⟨htst, hws2⟩ := run_test hws'
          obtain rfl := run_ret hws2
          simp only [Bool.and_eq_true] at htst
          obtain ⟨w', e1, e2⟩ := storeBox_ok (P := P) (u := a.eval x) s1 ht (by rw [get_other (by simp)]; exact hb) (by rw [le1.bb b hpp.1]; exact hpp.2) hall (Nat.eq_of_beq_eq_true htst.1) (fitR_ok htst.2.1) htst.2.2
          exact fin w' g1 e1 e2
        · cases hws'
    · have hall := (cellsOf_ok h hvv hus).1
      unfold storeR at hws
      split at hws
      · rename_i b off
        have hws' := run_ask hws
        split at hws'
        · rename_i cs hb
          obtain ⟨htst, hws2⟩ := run_test hws'
          obtain rfl := run_ret hws2
          simp only [Bool.and_eq_true] at htst
          obtain ⟨w', e1, e2⟩ := storeBox_ok (P := P) h ht hb hpp.2 hall (Nat.eq_of_beq_eq_true htst.1) (fitR_ok htst.2.1) htst.2.2
          exact fin w' g e1 e2
        · cases hws'
      · rename_i i e off
        have hws' := run_ask hws
        split at hws'
        · rename_i fr d hd'
          obtain ⟨htst, hws2⟩ := run_test hws'
          obtain ⟨⟨d', fr2, fz⟩, hset, hws3⟩ := run_bind_some hws2
          obtain rfl := run_ret hws3
          cases hdp : d.deep with
          | false =>
            obtain ⟨w', g', e1, e2⟩ := storeRow_ok (P := P) h ht hdp hd' hpp hall (Nat.eq_of_beq_eq_true htst) hset
            exact fin w' g' e1 e2
          | true =>
            cases d with
            | deqs es =>
              obtain ⟨j, s, fr3, ys, rfl, rfl, hj, e0⟩ := setR_deep hset
              cases e0
              obtain ⟨w', g', e1, e2⟩ := storeDeep_ok (P := P) h ht hd' hpp hall (Nat.eq_of_beq_eq_true htst) hj
              exact fin w' g' e1 e2
            | _ => cases hdp
        · cases hws'
      · rename_i i
        have hws' := run_ask hws
        split at hws'
        · rename_i fr k xs hd'
          obtain ⟨htst, hws2⟩ := run_test hws'
          obtain ⟨htst2, hws4⟩ := run_test hws2
          simp only [decide_eq_true_eq] at htst2
          obtain ⟨ys, hys, hws3⟩ := run_bind_some hws4
          obtain rfl := run_ret hws3
          have htst := Nat.eq_of_beq_eq_true htst
          obtain ⟨w', e1, e2⟩ := storeArr_ok (P := P) h ht hd' hpp hall htst (htst.trans htst2) hys
          exact fin w' g e1 e2
        · cases hws'
      · cases hws
  · -- nilCheck
    rename_i x hop
    obtain ⟨v, hv, hr⟩ := run_bind_some hr
    have hv' := opv_ok h hv
    split at hr
    · obtain rfl := run_ret hr
      exact val (a.eval x) _ (by simp [execOp, hop, hv'.2]) hv' rfl
    · obtain rfl := run_ret hr
      have hv2 := hv'
      obtain ⟨ad, e1, _⟩ := hv2
      exact val (a.eval x) _ (by simp [execOp, hop, e1]) hv' rfl
    · obtain rfl := run_ret hr
      have hv2 := hv'
      obtain ⟨_, _, ad, len, cap, _, e1, _⟩ := hv2
      exact val (a.eval x) _ (by simp [execOp, hop, e1]) hv' rfl
    · cases hr
  · -- binOp
    rename_i op t x y u hop
    obtain ⟨m, hm, hr⟩ := run_bind_some hr
    obtain ⟨n, hn', hr⟩ := run_bind_some hr
    have e1 := scal_ok h hm
    have e2 := scal_ok h hn'
    split at hr
    · rename_i q hq
      obtain ⟨ti, hti, hr⟩ := run_bind_some hr
      obtain ⟨hb, hr⟩ := run_test hr
      obtain ⟨v, hv, hr⟩ := run_bind_some hr
      obtain rfl := run_ret hr
      have hund := (tio_ok htab hti).und
      have hk : ti.k = .bool := by
        cases hk : ti.k with
        | bool => rfl
        | int k => rw [hk] at hb; cases hb
        | str => rw [hk] at hb; cases hb
        | slice e => rw [hk] at hb; cases hb
        | struct fs => rw [hk] at hb; cases hb
        | arr k e n => rw [hk] at hb; cases hb
      rw [hk] at hund
      exact valS' v (do eqGuard op t x y m n; binOp op t m n) (by simp only [execOp, hop, e1, e2]) (run_boolR hund hq hv) rfl
    · obtain ⟨v, hv, hr⟩ := run_bind_some hr
      obtain rfl := run_ret hr
      exact valS' v (do eqGuard op t x y m n; binOp op t m n) (by simp only [execOp, hop, e1, e2]) (run_binR hv) rfl
  · -- unOp
    rename_i op t x hop
    obtain ⟨m, hm, hr⟩ := run_bind_some hr
    obtain ⟨v, hv, hr⟩ := run_bind_some hr
    obtain rfl := run_ret hr
    have e1 := scal_ok h hm
    unfold unR at hv
    split at hv
    · obtain rfl := run_ret hv
      refine valS _ ?_ rfl
      simp [execOp, hop, e1, Op.unary]
    · obtain rfl := run_ret hv
      refine valS _ ?_ rfl
      simp [execOp, hop, e1, Op.unary, Op.intBits]
    · cases hv
  · -- convert
    rename_i ta tb x hop
    obtain ⟨ia, hia, hr⟩ := run_bind_some hr
    obtain ⟨ib, hib, hr⟩ := run_bind_some hr
    have hA := tio_ok htab hia
    have hB := tio_ok htab hib
    split at hr
    · rename_i e hsb
      obtain ⟨v, hv, hr⟩ := run_bind_some hr
      have ev := scal_ok h hv
      split at hr
      · rename_i s
        obtain ⟨te, hte, hr⟩ := run_bind_some hr
        split at hr
        · rename_i hk8
          obtain ⟨hts1, hr⟩ := run_test hr
          obtain ⟨hts2, hr⟩ := run_test hr
          simp only [decide_eq_true_eq] at hts2
          obtain ⟨hno, hr⟩ := newLoc_ok hr
          obtain rfl := run_ret hr
          have hE := (tio_ok htab hte).und
          rw [hk8] at hE
          have hA' := hA.und
          have hB' := hB.und
          have hk : ia.k = .str ∧ ib.k = .slice e := by
            unfold strBy at hsb
            split at hsb
            · rename_i e' q1 q2
              cases hsb
              exact ⟨q1, q2⟩
            · cases hsb
          rw [hk.1] at hA'
          rw [hk.2] at hB'
          obtain ⟨q, w', g', e1, e2, e3⟩ := bytes_ok (P := P) hF h hA' hB' hE (isSome'_ok hts1) hts2 hno
          refine wp_value (v := q) (w' := w') ?_ (hn _ _ g' (wr_dst e2 hd e3))
          simp only [execOp, hop, ev, Sem.run_bind]
          rw [e1]; rfl
        · cases hr
      · cases hr
    obtain ⟨v, hv, hr⟩ := run_bind_some hr
    obtain ⟨u, hu, hr⟩ := run_bind_some hr
    obtain rfl := run_ret hr
    have key : (convR ia.k ib.k v).run (get σ) = some u ∧ ∀ e, ia.k = .slice e → P.underlying e = some (.int .u8) := by
      split at hu
      · rename_i e hk
        obtain ⟨te, hte, hu⟩ := run_bind_some hu
        split at hu
        · rename_i hk8
          refine ⟨hu, fun e' he' => ?_⟩
          rw [hk] at he'
          cases he'
          have := (tio_ok htab hte).und
          rw [hk8] at this
          exact this
        · cases hu
      · rename_i hne
        exact ⟨hu, fun e he => absurd he (hne e)⟩
    obtain ⟨q, e1, e2⟩ := conv_ok (P := P) h hA hB (opv_ok h hv) key.1 key.2
    exact val' q u _ (by simp only [execOp, hop]) e1 e2 rfl
  · -- makeSlice
    rename_i t l c hop
    obtain ⟨ek, hek, hr⟩ := run_bind_some hr
    split at hr
    · rename_i m hcap
      obtain ⟨hm, hr⟩ := run_test hr
      obtain ⟨hno, hr⟩ := newLoc_ok hr
      obtain rfl := run_ret hr
      obtain ⟨hu, hk⟩ := rkOfElem_ok htab hek
      obtain ⟨v, w', g', e1, e2, e3⟩ := makeCap_ok (P := P) htab hF h hu hk (by simpa using hm) hno
      obtain ⟨el, ec⟩ := capOf_ok hcap
      subst el ec
      exact wp_value (v := v) (w' := w') (by simp only [execOp, hop, Sem.run_bind, Act.eval]; rw [e1]; rfl) (hn _ _ g' (wr_dst e2 hd e3))
    obtain ⟨m, hm, hr⟩ := run_bind_some hr
    obtain ⟨n, hn', hr⟩ := run_bind_some hr
    have em := scal_ok h hm
    have en := scal_ok h hn'
    split at hr
    · rename_i x y
      obtain ⟨h0, hr⟩ := run_test hr
      obtain ⟨h1, hr⟩ := run_test hr
      obtain ⟨h2, hr⟩ := run_test hr
      obtain ⟨hno, hr⟩ := newLoc_ok hr
      obtain rfl := run_ret hr
      simp only [decide_eq_true_eq] at h0 h1 h2
      subst h1
      obtain ⟨hu, hk⟩ := rkOfElem_ok htab hek
      obtain ⟨v, w', g', e1, e2, e3⟩ := makeUp_ok htab hF h hu hk h0 h2 hno
      exact wp_value (v := v) (w' := w') (by simp only [execOp, hop, Sem.run_bind, em, en]; rw [e1]; rfl) (hn _ _ g' (wr_dst e2 hd e3))
    · cases hr
  · -- slice
    rename_i t x lo hi hop
    obtain ⟨ti, hti, hr⟩ := run_bind_some hr
    have ht := (tio_ok htab hti).und
    split at hr
    · rename_i hk
      rw [hk] at ht
      obtain ⟨v, hv, hr⟩ := run_bind_some hr
      have ev := scal_ok h hv
      split at hr
      · obtain ⟨u, hu, hr⟩ := run_bind_some hr
        obtain rfl := run_ret hr
        obtain ⟨q, e1, e2⟩ := sliceS_ok (P := P) h ht hu
        exact val' q u _ (by simp only [execOp, hop, ev, Option.map_none]) e1 e2 rfl
      · cases hr
    · rename_i e hk
      rw [hk] at ht
      obtain ⟨te, hte, hr⟩ := run_bind_some hr
      obtain ⟨v, hv, hr⟩ := run_bind_some hr
      obtain ⟨u, hu, hr⟩ := run_bind_some hr
      obtain rfl := run_ret hr
      obtain ⟨q, e1, e2⟩ := sliceR_ok (P := P) h ht (tio_ok htab hte) (opv_ok h hv) hu
      exact val' q u _ (by simp only [execOp, hop, Option.map_none]) e1 e2 rfl
    · cases hr
  · -- fieldAddr
    rename_i t x f hop
    obtain ⟨ti, hti, hr⟩ := run_bind_some hr
    obtain ⟨v, hv, hr⟩ := run_bind_some hr
    obtain ⟨u, hu, hr⟩ := run_bind_some hr
    obtain rfl := run_ret hr
    obtain ⟨q, e1, e2⟩ := field_ok (P := P) h (tio_ok htab hti) (opv_ok h hv) hu
    exact val' q u _ (by simp only [execOp, hop]) e1 e2 rfl
  · -- indexAddr
    rename_i t x y hop
    obtain ⟨ti, hti, hr⟩ := run_bind_some hr
    have ht := (tio_ok htab hti).und
    split at hr
    · rename_i e hk
      rw [hk] at ht
      obtain ⟨te, hte, hr⟩ := run_bind_some hr
      obtain ⟨v, hv, hr⟩ := run_bind_some hr
      obtain ⟨iv, hiv, hr⟩ := run_bind_some hr
      obtain ⟨n, hn', hr⟩ := run_bind_some hr
      obtain ⟨u, hu, hr⟩ := run_bind_some hr
      obtain rfl := run_ret hr
      obtain ⟨k, ek⟩ := asInt_ok (opv_ok h hiv) hn'
      obtain ⟨q, e1, e2⟩ := indexAddr_ok (P := P) h ht (tio_ok htab hte) (opv_ok h hv) ek hu
      exact val' q u _ (by simp only [execOp, hop]) e1 e2 rfl
    · rename_i k el m hk
      rw [hk] at ht
      obtain ⟨te, hte, hr⟩ := run_bind_some hr
      obtain ⟨hts, hr⟩ := run_test hr
      have hts := Nat.eq_of_beq_eq_true hts
      obtain ⟨v, hv, hr1⟩ := run_bind_some hr
      clear hr
      obtain ⟨iv, hiv, hr2⟩ := run_bind_some hr1
      clear hr1
      obtain ⟨n, hn', hr⟩ := run_bind_some hr2
      clear hr2
      obtain ⟨k', ek⟩ := asInt_ok (opv_ok h hiv) hn'
      have hv' := opv_ok h hv
      clear hv
      have run : ∀ ad, a.eval x = .pointer (some ad) → 0 ≤ n → n < m → (Instr.indexAt t (a.eval x) (a.eval y)).run P w = .ok (.pointer (some (ad.add n.toNat))) w := fun ad e1 h0 h1 => by
        simp [Instr.indexAt, Instr.sureAddr, asIntOf, run_underlying ht.1, ek, e1, h0, h1, run_sizeOf' (tio_ok htab hte), hts]
      split at hr
      · rename_i r
        have hr' := run_ask hr
        split at hr'
        · rename_i own fr d hd'
          obtain ⟨hm, hr⟩ := run_test hr'
          have hm2 := Nat.eq_of_beq_eq_true hm
          obtain ⟨hm1, hr⟩ := run_test hr
          have hm1 : m ≤ d.len := by simpa using hm1
          obtain ⟨h0, h1, hr⟩ := inR_ok hr
          obtain rfl := run_ret hr
          obtain ⟨hv1, ad, len, cap, hv2, hv3, hv4⟩ := hv'
          obtain ⟨_, ⟨hw, hl⟩, _⟩ := h.row r _ _ _ hd'
          refine val' _ (.pr r n.toNat 0) _ (by simp only [execOp, hop]) (run ad hv3 h0 h1) ⟨hv1, by rw [hl]; omega, ad, len, cap, hv2, ?_, hv4⟩ rfl
          rw [hw, hm2, Nat.mul_one, Nat.add_zero]
        · cases hr'
      · rename_i gn
        obtain ⟨h0, h1, hr⟩ := inR_ok hr
        obtain rfl := run_ret hr
        refine val' _ (.gp gn n.toNat) _ (by simp only [execOp, hop]) (run ⟨gn, 0, none⟩ hv' h0 h1) ?_ rfl
        show Value.pointer (some ((⟨gn, 0, none⟩ : Addr).add n.toNat)) = Value.pointer (some ⟨gn, n.toNat, none⟩)
        have e : (⟨gn, 0, none⟩ : Addr).add n.toNat = ⟨gn, n.toNat, none⟩ := by unfold Addr.add; split <;> simp_all
        rw [e]
      · cases hr
    · cases hr
  · -- index
    rename_i t x y hop
    obtain ⟨ti, hti, hr⟩ := run_bind_some hr
    have ht := (tio_ok htab hti).und
    split at hr
    · rename_i hk
      rw [hk] at ht
      obtain ⟨v, hv, hr⟩ := run_bind_some hr
      have ev := scal_ok h hv
      split at hr
      · rename_i s
        obtain ⟨iv, hiv, hr⟩ := run_bind_some hr
        obtain ⟨n, hn', hr⟩ := run_bind_some hr
        obtain ⟨h0, h1, hr⟩ := inR_ok hr
        obtain rfl := run_ret hr
        obtain ⟨k, ek⟩ := asInt_ok (opv_ok h hiv) hn'
        have hlt : n.toNat < s.size := by omega
        refine valS' (.int .u8 (bt s n)) (Instr.index t (.string s) (.int k n)) (by simp only [execOp, hop, ev, ek]) ?_ rfl
        have hg : s[n.toNat]? = some s[n.toNat] := by simp [hlt]
        have hb : bt s n = (s[n.toNat].toNat : Int) := by
          unfold bt
          have hl : n.toNat < s.data.toList.length := by simpa using hlt
          rw [List.getD_eq_getElem?_getD, List.getElem?_eq_getElem hl]
          rfl
        simp [Instr.index, asIntOf, run_underlying ht, h0, hg, hb]
      · cases hr
    · rename_i k el m hk
      rw [hk] at ht
      obtain ⟨te, hte, hr⟩ := run_bind_some hr
      obtain ⟨hts, hr⟩ := run_test hr
      simp only [Bool.and_eq_true, Bool.not_eq_true'] at hts
      obtain ⟨hs1, hs2⟩ := hts
      have hs1 := Nat.eq_of_beq_eq_true hs1
      obtain ⟨v, hv, hr⟩ := run_bind_some hr
      have hv' := opv_ok h hv
      split at hr
      · rename_i cs
        obtain ⟨ys, hys, hr⟩ := run_bind_some hr
        obtain ⟨iv, hiv, hr⟩ := run_bind_some hr
        obtain ⟨n, hn', hr⟩ := run_bind_some hr
        obtain ⟨hm, hr⟩ := run_test hr
        have hm : m ≤ ys.length := by simpa using hm
        obtain ⟨h0, h1, hr⟩ := inR_ok hr
        obtain rfl := run_ret hr
        obtain ⟨k', ek⟩ := asInt_ok (opv_ok h hiv) hn'
        obtain ⟨us, e1, hall⟩ := hv'
        obtain ⟨_, rfl⟩ := cellInts_ok hall hys
        refine valS' (.int k (ys.getD n.toNat 0)) (Instr.index t (.agg (ys.map (Value.int k)).toArray) (.int k' n)) (by simp only [execOp, hop, e1, ek]) ?_ rfl
        have hlt : n.toNat < ys.length := by omega
        have hg : (ys.map (Value.int k)).toArray[n.toNat * 1]? = some (.int k (ys.getD n.toNat 0)) := by
          simp [List.getD_eq_getElem?_getD, List.getElem?_eq_getElem hlt]
        have hte' := tio_ok htab hte
        simp only [Instr.index, asIntOf, Sem.run_bind, Sem.run_pure, Result.andThen_ok, run_underlying ht.1]
        rw [if_pos ⟨h0, h1⟩]
        simp only [Sem.run_bind, run_sizeOf' hte', Result.andThen_ok, hs1, part, run_isAgg' hte', hs2]
        simp only [hg]
        rfl
      · cases hr
    · cases hr
  · -- extract
    rename_i x n hop
    obtain ⟨v, hv, hr⟩ := run_bind_some hr
    have hv' := opv_ok h hv
    split at hr
    · rename_i vs
      split at hr
      · rename_i u hu
        obtain rfl := run_ret hr
        obtain ⟨us, e1, hall⟩ := hv'
        obtain ⟨q, hq, hq2⟩ := hall.get n u hu
        exact val q (.v u) (by simp [execOp, hop, e1, Instr.extract, hq]) hq2 rfl
      · cases hr
    · cases hr
  · -- call
    rename_i c hop
    split at hr
    · rename_i b hb
      unfold builtinR at hr
      split at hr
      · -- len
        rename_i t x ets eas
        obtain ⟨ti, hti, hr⟩ := run_bind_some hr
        have ht := (tio_ok htab hti).und
        have hca : c.args = #[x] := by apply Array.toList_inj.1; rw [eas]
        have hct : c.argTypes = #[t] := by apply Array.toList_inj.1; rw [ets]
        have hex : execOp a.eval o = (do pure (.value (← Builtin.len_ #[t] o.type #[a.eval x]))) := by
          simp [execOp, hop, resolve, hb, invoke, builtin, hca, hct]
        split at hr
        · rename_i hk
          rw [hk] at ht
          obtain ⟨v, hv, hr⟩ := run_bind_some hr
          have ev := scal_ok h hv
          split at hr
          · rename_i s
            obtain rfl := run_ret hr
            exact valS' (.int .i64 s.size) _ hex (by simp [Builtin.len_, run_underlying ht, ev, goInt]) rfl
          · cases hr
        · rename_i e hk
          rw [hk] at ht
          obtain ⟨v, hv, hr⟩ := run_bind_some hr
          obtain ⟨⟨d, fr⟩, hd', hr⟩ := run_bind_some hr
          obtain rfl := run_ret hr
          obtain ⟨A, cap, e1, _⟩ := rowR_ok h (opv_ok h hv) hd'
          exact valS' (.int .i64 d.len) _ hex (by simp [Builtin.len_, run_underlying ht, e1, goInt]) rfl
        · cases hr
      · -- min
        rename_i t1 t2 x y ets eas
        obtain ⟨m, hm, hr⟩ := run_bind_some hr
        obtain ⟨n, hn', hr⟩ := run_bind_some hr
        have e1 := scal_ok h hm
        have e2 := scal_ok h hn'
        have hca : c.args = #[x, y] := by apply Array.toList_inj.1; rw [eas]
        split at hr
        · rename_i k p l q _
          obtain rfl := run_ret hr
          refine valS' (.int k (if q < p then q else p)) (Builtin.min_ c.argTypes o.type #[.int k p, .int l q]) (by simp [execOp, hop, resolve, hb, invoke, builtin, hca, e1, e2]) ?_ rfl
          simp [Builtin.min_, Builtin.min2]
        · cases hr
      · -- append
        rename_i t1 t2 x y ets eas
        obtain ⟨htt, hrA⟩ := run_test hr
        obtain rfl := Nat.eq_of_beq_eq_true htt
        obtain ⟨ek, hek, hrB⟩ := run_bind_some hrA
        clear hr
        obtain ⟨hu, hk⟩ := rkOfElem_ok htab hek
        obtain ⟨v, hv, hr⟩ := run_bind_some hrB
        have hv' := opv_ok h hv
        have hca : c.args = #[x, y] := by apply Array.toList_inj.1; rw [eas]
        have hct : c.argTypes = #[t1, t1] := by apply Array.toList_inj.1; rw [ets]
        split at hr
        · rename_i i
          have hr' := run_ask hr
          split at hr'
          · rename_i fr d hdr
            split at hr'
            · rename_i es hdq
              obtain rfl : d = .deqs es := by
                cases d with
                | deqs xs => cases hdq; rfl
                | _ => cases hdq
              obtain ⟨hkd, hr⟩ := run_test hr'
              obtain ⟨yv, hyv, hr⟩ := run_bind_some hr
              have hyv' := opv_ok h hyv
              split at hr
              · rename_i j
                have hr' := run_ask hr
                split at hr'
                · rename_i fr2 vs hdj
                  obtain ⟨hij, hr⟩ := run_test hr'
                  obtain ⟨hlt, hr⟩ := run_test hr
                  obtain ⟨hno, hr⟩ := newLoc_ok hr
                  obtain rfl := run_ret hr
                  have hke := RK.eqb_iff.1 hkd
                  rw [hke] at hk
                  obtain ⟨q, w', g', e1, e2, e3⟩ := appendDeep_ok (P := P) (ty := o.type) htab hF h hu hk hdr hdj (fun e => by subst e; simp at hij) (by simpa using hlt) hno
                  refine wp_value (v := q) (w' := w') ?_ (hn _ _ g' (wr_dst e2 hd e3))
                  simp only [execOp, hop, resolve, hb, invoke, builtin, hca, hct, List.map_toArray, List.map_cons, List.map_nil, Sem.run_bind, Sem.run_pure, Result.andThen_ok, hv'.2, hyv'.2]
                  rw [e1]
                  rfl
                · cases hr'
              · cases hr
            rename_i hdq
            replace hr' := hr'
            obtain ⟨hkd, hr⟩ := run_test hr'
            obtain ⟨yv, hyv, hr⟩ := run_bind_some hr
            obtain ⟨⟨d2, fr2⟩, hp, hr⟩ := run_bind_some hr
            split at hr
            · rename_i d' happ
              obtain ⟨hlt, hr⟩ := run_test hr
              obtain ⟨hno, hr⟩ := newLoc_ok hr
              obtain rfl := run_ret hr
              obtain ⟨q, w', g', e1, e2, e3⟩ := append_ok (P := P) (ty := o.type) htab hF h hu hk hdr (RK.eqb_iff.1 hkd) hv'.1 (rowR_ok h (opv_ok h hyv) hp) happ (by simpa using hlt) hno
              refine wp_value (v := q) (w' := w') ?_ (hn _ _ g' (wr_dst e2 hd e3))
              simp only [execOp, hop, resolve, hb, invoke, builtin, hca, hct, List.map_toArray, List.map_cons, List.map_nil, Sem.run_bind, Sem.run_pure, Result.andThen_ok, hv'.2]
              rw [e1]
              rfl
            · cases hr
          · cases hr'
        · cases hr
      · cases hr
    · rename_i f hf
      exact call_ok hΦ hF h hd hop hf hr hn
    · cases hr
  · cases hr
end
end Vx
/- Regions: in the text's order, and in any order. -/
namespace Vx
open Go Go.RowKit

theorem lookupK_eq {R : Type} (σ : St) (l : Loc) (k : Ct → Option R) : lookupK σ l k = k (get σ l) := by
  induction σ with
  | nil => rfl
  | cons x σ ih =>
    obtain ⟨m, c⟩ := x
    simp only [lookupK, get]
    cases l.beq m
    · exact ih
    · rfl
theorem appK_eq {R : Type} (ws : List (Loc × Ct)) (σ : St) (k : St → Option R) : appK ws σ k = k (push ws σ) := by
  induction ws generalizing σ with
  | nil => rfl
  | cons w ws ih => exact ih _
theorem runK_some {α R : Type} {m : Rd α} {σ : St} {rs : List Loc} {k : α → List Loc → Option R} {r : R} (h : m.runK σ rs k = some r) : ∃ x, m.run (get σ) = some x ∧ k x ((m.reads (get σ)).reverse ++ rs) = some r := by
  induction m generalizing rs with
  | ret x => exact ⟨x, rfl, h⟩
  | fail => cases h
  | ask l f ih =>
    rw [Rd.runK, lookupK_eq] at h
    obtain ⟨x, h1, h2⟩ := ih _ h
    refine ⟨x, h1, ?_⟩
    simp only [Rd.reads, List.reverse_cons, List.append_assoc, List.singleton_append]
    exact h2
  | br c t e iht ihe =>
    cases c
    · obtain ⟨x, h1, h2⟩ := ihe h; exact ⟨x, h1, h2⟩
    · obtain ⟨x, h1, h2⟩ := iht h; exact ⟨x, h1, h2⟩
theorem splitK_some {R : Type} {ops : Array Oper} {dst : Option Tmp} {l : List Oper} {σ : St} {k : St → Option R} {r : R} (h : splitK ops dst l σ k = some r) : ∃ σ', k σ' = some r ∧ ∀ m, get σ' m = get σ m := by
  unfold splitK at h
  split at h
  · exact ⟨σ, h, fun _ => rfl⟩
  · rename_i d
    split at h
    · exact ⟨σ, h, fun _ => rfl⟩
    · rw [lookupK_eq] at h
      split at h
      · rename_i b hb
        split at h
        · refine ⟨_, h, fun m => ?_⟩
          by_cases e : m = .t d
          · subst e; rw [get_same, hb]
          · exact get_other e _ _
        · refine ⟨_, h, fun m => ?_⟩
          by_cases e : m = .t d
          · subst e; rw [get_same, hb]
          · exact get_other e _ _
      · exact ⟨σ, h, fun _ => rfl⟩
/-- What a run leans on is what it reads. -/
theorem run_local {α : Type} {m : Rd α} {G G' : Loc → Ct} (h : ∀ l ∈ m.reads G, G' l = G l) : m.run G' = m.run G ∧ m.reads G' = m.reads G := by
  induction m with
  | ret x => exact ⟨rfl, rfl⟩
  | fail => exact ⟨rfl, rfl⟩
  | ask l f ih =>
    have hl := h l (by simp [Rd.reads])
    have hf := ih (G l) (fun m hm => h m (by simp [Rd.reads, hm]))
    simp only [Rd.run, Rd.reads, hl]
    exact ⟨hf.1, by rw [hf.2]⟩
  | br c t e iht ihe =>
    cases c
    · exact ihe h
    · exact iht h

section
variable {P : Program} {cx : Cx} {F : Fr} {σ : St} {a : Act} {w : World} {g : Gm}
theorem yielded_bool {ops : Array Oper} {j : Nat} {oj : Oper} {d : Tmp} {b : Bool} (h1 : ops[j]? = some oj) (h2 : oj.dst = some d) (h3 : a.tmps.getD d undef = .bool b) : yielded ops a.tmps j = some b := by
  have h4 : a.tmps[d]? = some (.bool b) := by
    rw [Array.getD_eq_getD_getElem?] at h3
    cases h : a.tmps[d]? with
    | none => rw [h] at h3; simp [undef] at h3
    | some v => rw [h] at h3; simp at h3; rw [h3]
  simp [yielded, h1, h2, h4]
theorem yielded_none {ops : Array Oper} {j : Nat} {oj : Oper} {d : Tmp} {vs : Array Value} (h1 : ops[j]? = some oj) (h2 : oj.dst = some d) (h3 : a.tmps.getD d undef = .tuple vs) : yielded ops a.tmps j = none := by
  unfold yielded
  simp only [h1, h2, Option.bind_some]
  cases h : a.tmps[d]? with
  | none => rfl
  | some v =>
    rw [Array.getD_eq_getD_getElem?, h] at h3
    simp at h3
    subst h3
    rfl
/-- An operation with its guard, where its turn has come. -/
theorem effG_ok (htab : TabOk P cx) (hΦ : Sound P cx.ek cx.Φ) (hF : F.ek = cx.ek) (h : Sat F σ a w g) {ops : Array Oper} {o : Oper} {id : Nat} {ws : List (Loc × Ct)} (hr : (effG cx F.nt ops id o).run (get σ) = some ws)
    {next : Act → World → Prop} {Q : Exit → Act → World → Prop} (hn : ∀ v w' g', Sat F (push ws σ) (a.put o.dst v) w' g' → next (a.put o.dst v) w') :
    (Region.wanted o (yielded ops a.tmps) = true ∧ o.wp P a w next Q) ∨ (Region.wanted o (yielded ops a.tmps) = false ∧ next (a.put o.dst undef) w) := by
  unfold effG at hr
  split at hr
  · cases hr
  · rename_i hd
    split at hr
    · rename_i hg
      exact .inl ⟨by simp [Region.wanted, hg], eff_ok htab hΦ hF h hd hr hn⟩
    · rename_i j want hg
      split at hr
      · rename_i oj hoj
        split at hr
        · rename_i d hdj
          have hr' := run_ask hr
          split at hr'
          · rename_i b hb
            have hv := h.tmp d _ hb
            have hy := yielded_bool (a := a) hoj hdj hv
            have hw : Region.wanted o (yielded ops a.tmps) = (b == want) := by
              simp only [Region.wanted, hg, hy]
              cases b <;> cases want <;> rfl
            cases hbw : (b == want) with
            | true =>
              rw [hbw] at hr' hw
              exact .inl ⟨hw, eff_ok htab hΦ hF h hd hr' hn⟩
            | false =>
              rw [hbw] at hr' hw
              have := run_ret (x := wr o.dst (.v (.cell (.sc undef)))) (g := get σ) hr'
              subst this
              exact .inr ⟨hw, hn undef w g (wr_dst h hd rfl)⟩
          · rename_i vs hb
            have hv := h.tmp d _ hb
            have hy := yielded_none (a := a) hoj hdj hv
            have := run_ret hr'
            subst this
            exact .inr ⟨by simp [Region.wanted, hg, hy], hn undef w g (wr_dst h hd rfl)⟩
          · cases hr'
        · cases hr
      · cases hr
/-- In the text's order. -/
theorem opsK_seq (htab : TabOk P cx) (hΦ : Sound P cx.ek cx.Φ) (hF : F.ek = cx.ek) {R : Type} {ops : Array Oper} {id : Nat} {Q : Exit → Act → World → Prop} {k : St → List (List Loc × List Loc) → Option R} {r : R}
    (hk : ∀ σ' log' a' w' g', k σ' log' = some r → Sat F σ' a' w' g' → Q .normal a' w') : ∀ (l : List Oper) (p : Nat) (σ : St) (log : List (List Loc × List Loc)) (a : Act) (w : World) (g : Gm),
    opsK cx F.nt ops id l p σ log k = some r → Sat F σ a w g → wpList P ops Q l a w
  | [], p, σ, log, a, w, g, hr, h => hk _ _ _ _ _ hr h
  | o :: l, p, σ, log, a, w, g, hr, h => by
    unfold opsK at hr
    obtain ⟨ws, h1, h2⟩ := runK_some hr
    rw [appK_eq] at h2
    obtain ⟨σ', h3, h4⟩ := splitK_some h2
    have hnext : ∀ v w' g', Sat F (push ws σ) (a.put o.dst v) w' g' → wpList P ops Q l (a.put o.dst v) w' := fun v w' g' hs => opsK_seq htab hΦ hF hk l (p + 1) σ' _ _ _ g' h3 (hs.ext h4)
    unfold wpList
    rcases effG_ok htab hΦ hF h h1 hnext with ⟨hw, hwp⟩ | ⟨hw, hnx⟩
    · rw [if_pos hw]; exact .inl hwp
    · rw [if_neg (by rw [hw]; exact Bool.false_ne_true)]; exact hnx
end

/-! in any order -/
structure Item where
  p : Nat
  o : Oper
  rs : List Loc
  ws : List (Loc × Ct)
def keys (ws : List (Loc × Ct)) : List Loc := ws.map (·.1)
/-- What the writes make of a state. -/
def upd (ws : List (Loc × Ct)) (G : Loc → Ct) : Loc → Ct := fun l => ws.foldl (fun c p => if l = p.1 then p.2 else c) (G l)
theorem get_push (ws : List (Loc × Ct)) (σ : St) : get (push ws σ) = upd ws (get σ) := by
  funext l
  unfold upd
  induction ws generalizing σ with
  | nil => rfl
  | cons x ws ih => rw [push_cons, ih, List.foldl_cons, get_cons]
theorem upd_out {ws : List (Loc × Ct)} {G : Loc → Ct} {l : Loc} (h : l ∉ keys ws) : upd ws G l = G l := by
  unfold upd
  induction ws generalizing G with
  | nil => rfl
  | cons x ws ih =>
    simp only [keys, List.map_cons, List.mem_cons, not_or] at h
    rw [List.foldl_cons, if_neg h.1]
    exact ih (G := G) h.2
theorem upd_in {ws : List (Loc × Ct)} {G G' : Loc → Ct} {l : Loc} (h : l ∈ keys ws) : upd ws G l = upd ws G' l := by
  unfold upd
  have : ∀ (ws : List (Loc × Ct)) (c c' : Ct), l ∈ keys ws → ws.foldl (fun c p => if l = p.1 then p.2 else c) c = ws.foldl (fun c p => if l = p.1 then p.2 else c) c' := by
    intro ws
    induction ws with
    | nil => intro c c' h; cases h
    | cons x ws ih =>
      intro c c' h
      rw [List.foldl_cons, List.foldl_cons]
      by_cases e : l = x.1
      · rw [if_pos e, if_pos e]
      · rw [if_neg e, if_neg e]
        simp only [keys, List.map_cons, List.mem_cons] at h
        exact ih c c' (h.resolve_left e)
  exact this ws _ _ h
theorem upd_comm {ws us : List (Loc × Ct)} (h : ∀ l ∈ keys ws, l ∉ keys us) (G : Loc → Ct) : upd us (upd ws G) = upd ws (upd us G) := by
  funext l
  by_cases h1 : l ∈ keys ws
  · rw [upd_out (h l h1), upd_in h1]
  · by_cases h2 : l ∈ keys us
    · rw [upd_out h1 (G := upd us G)]; exact upd_in h2
    · rw [upd_out h2, upd_out h1, upd_out h1, upd_out h2]
structure Ind (x y : Item) : Prop where
  wr : ∀ l ∈ keys x.ws, l ∉ y.rs
  ww : ∀ l ∈ keys x.ws, l ∉ keys y.ws
  rw : ∀ l ∈ x.rs, l ∉ keys y.ws
/-- The same with states as functions. -/
inductive RunsF (cx : Cx) (nt : Nat) (ops : Array Oper) (id : Nat) : List Item → (Loc → Ct) → (Loc → Ct) → Prop where
  | nil {G} : RunsF cx nt ops id [] G G
  | cons {x l G H} (h1 : (effG cx nt ops (id + 16 * x.p) x.o).run G = some x.ws) (h2 : (effG cx nt ops (id + 16 * x.p) x.o).reads G = x.rs) (t : RunsF cx nt ops id l (upd x.ws G) H) : RunsF cx nt ops id (x :: l) G H
section
variable {cx : Cx} {nt : Nat} {ops : Array Oper} {id : Nat}
theorem RunsF.swap2 {x y : Item} {l : List Item} {G H : Loc → Ct} (hi : Ind x y) (h : RunsF cx nt ops id (x :: y :: l) G H) : RunsF cx nt ops id (y :: x :: l) G H := by
  cases h with
  | cons h1 h2 t =>
    cases t with
    | cons h3 h4 t =>
      have e1 := run_local (m := effG cx nt ops (id + 16 * y.p) y.o) (G := upd x.ws G) (G' := G) fun l hl => (upd_out fun hk => hi.wr l hk (h4 ▸ hl)).symm
      have e2 := run_local (m := effG cx nt ops (id + 16 * x.p) x.o) (G := G) (G' := upd y.ws G) fun l hl => upd_out (hi.rw l (h2 ▸ hl))
      refine .cons (e1.1.trans h3) (e1.2.trans h4) (.cons (e2.1.trans h1) (e2.2.trans h2) ?_)
      rw [← upd_comm hi.ww]
      exact t
theorem RunsF.front {x : Item} : ∀ {l1 l2 : List Item} {G H : Loc → Ct}, (∀ y ∈ l1, Ind y x) → RunsF cx nt ops id (l1 ++ x :: l2) G H → RunsF cx nt ops id (x :: (l1 ++ l2)) G H
  | [], _, _, _, _, h => h
  | y :: l1, l2, G, H, hi, h => by
    cases h with
    | cons h1 h2 t =>
      exact RunsF.swap2 (hi y List.mem_cons_self) (.cons h1 h2 (RunsF.front (fun z hz => hi z (List.mem_cons_of_mem _ hz)) t))
/-- What an executed list of operations was: its items. -/
theorem opsK_items {R : Type} {k : St → List (List Loc × List Loc) → Option R} {r : R} : ∀ (l : List Oper) (p : Nat) (σ : St) (log : List (List Loc × List Loc)), opsK cx nt ops id l p σ log k = some r →
    ∃ (its : List Item) (σ' : St), its.map (fun x => (x.p, x.o)) = (l.zipIdx p).map (fun x => (x.2, x.1)) ∧ RunsF cx nt ops id its (get σ) (get σ') ∧ k σ' ((its.map fun x => (x.rs.reverse, keys x.ws)).reverse ++ log) = some r
  | [], p, σ, log, h => ⟨[], σ, rfl, .nil, h⟩
  | o :: l, p, σ, log, h => by
    unfold opsK at h
    obtain ⟨ws, h1, h2⟩ := runK_some h
    rw [appK_eq] at h2
    obtain ⟨σ1, h3, h4⟩ := splitK_some h2
    obtain ⟨its, σ', e1, e2, e3⟩ := opsK_items l (p + 1) σ1 _ h3
    have hG : get σ1 = upd ws (get σ) := by funext m; rw [h4 m, get_push]
    refine ⟨⟨p, o, (effG cx nt ops (id + 16 * p) o).reads (get σ), ws⟩ :: its, σ', ?_, .cons h1 rfl (by rw [← hG]; exact e2), ?_⟩
    · simp only [List.map_cons, List.zipIdx_cons]
      rw [e1]
    · simp only [List.map_cons, List.reverse_cons, List.append_assoc, List.singleton_append]
      simp only [List.append_nil] at e3
      exact e3
end
end Vx
/- A drawn region: any order that its edges allow comes to the same. -/
namespace Vx
open Go Go.RowKit

structure AncOk (ops : Array Oper) (A : Nat → Nat → Prop) : Prop where
  back : ∀ (j : Nat) o, ops[j]? = some o → ∀ e ∈ o.after, Region.binds .any e = true → e.on < j
  anc : ∀ (j : Nat) o, ops[j]? = some o → ∀ k, A j k → ∃ e ∈ o.after, Region.binds .any e = true ∧ (k = e.on ∨ A e.on k)
theorem getD_tf {listed : Array Bool} {p : Nat} (hp : p < listed.size) : listed.getD p true = listed.getD p false := by simp [hp]
section
variable {P : Program} {cx : Cx} {F : Fr}
theorem any_ok (htab : TabOk P cx) (hΦ : Sound P cx.ek cx.Φ) (hF : F.ek = cx.ek) {ops : Array Oper} {id : Nat} {A : Nat → Nat → Prop} (hA : AncOk ops A) {H : Loc → Ct} {Q : Exit → Act → World → Prop} (hfin : ∀ σ' a' w' g', get σ' = H → Sat F σ' a' w' g' → Q .normal a' w') :
    ∀ (n : Nat) (its : List Item) (listed : Array Bool) (σ : St) (a : Act) (w : World) (g : Gm), its.length = n → listed.size = ops.size → (∀ p, p < ops.size → (listed.getD p true = false ↔ ∃ x ∈ its, x.p = p)) → (∀ x ∈ its, ops[x.p]? = some x.o) → its.Pairwise (fun x y => x.p < y.p) →
      its.Pairwise (fun x y => A y.p x.p ∨ Ind x y) → (∀ j, listed.getD j false = true → ∀ k, A j k → listed.getD k false = true) → RunsF cx F.nt ops id its (get σ) H → Sat F σ a w g → wpAny P .any ops Q n listed a w := by
  intro n
  induction n with
  | zero =>
    intro its listed σ a w g hl hs hun hops hso hin hcl hrun hsat
    have : its = [] := List.eq_nil_of_length_eq_zero hl
    subst this
    refine ⟨?_, ?_⟩
    · apply List.eq_nil_iff_forall_not_mem.2
      intro p hp
      obtain ⟨h1, o, h2, _⟩ := mem_ready.1 hp
      have hlt := (Array.getElem?_eq_some_iff.1 h2).1
      obtain ⟨x, hx, _⟩ := (hun p hlt).1 h1
      cases hx
    · cases hrun
      exact hfin σ a w g rfl hsat
  | succ n ih =>
    intro its listed σ a w g hl hs hun hops hso hin hcl hrun hsat
    have unl : ∀ x ∈ its, x.p < ops.size ∧ listed.getD x.p true = false := fun x hx => by
      have hlt := (Array.getElem?_eq_some_iff.1 (hops x hx)).1
      exact ⟨hlt, (hun _ hlt).2 ⟨x, hx, rfl⟩⟩
    refine ⟨fun hr => ?_, fun i hi => ?_⟩
    · -- the first one is ready
      exfalso
      cases its with
      | nil => cases hl
      | cons x0 l =>
        obtain ⟨hlt, hx0⟩ := unl x0 List.mem_cons_self
        have hmem : x0.p ∈ Region.ready .any ops listed := by
          refine mem_ready.2 ⟨hx0, x0.o, hops x0 List.mem_cons_self, fun e he hb => ?_⟩
          have hlt2 := hA.back _ _ (hops x0 List.mem_cons_self) e he hb
          cases hc : listed.getD e.on false with
          | true => rfl
          | false =>
            exfalso
            have hc' : listed.getD e.on true = false := by rw [getD_tf (by omega)]; exact hc
            obtain ⟨y, hy, hyp⟩ := (hun e.on (by omega)).1 hc'
            rcases List.mem_cons.1 hy with rfl | hy
            · omega
            · have := (List.pairwise_cons.1 hso).1 y hy; omega
        rw [hr] at hmem
        cases hmem
    · obtain ⟨hi1, oi, hi2, hi3⟩ := mem_ready.1 hi
      have hilt := (Array.getElem?_eq_some_iff.1 hi2).1
      obtain ⟨x, hx, hxp⟩ := (hun i hilt).1 hi1
      subst hxp
      obtain ⟨l1, l2, rfl⟩ := List.append_of_mem hx
      have hxo : x.o = oi := by have := hops x hx; rw [hi2] at this; exact (Option.some.inj this).symm
      have hanc : ∀ k, A x.p k → listed.getD k false = true := fun k hk => by
        obtain ⟨e, he, hb, hor⟩ := hA.anc _ _ hi2 k hk
        have he' := hi3 e he hb
        rcases hor with rfl | hk'
        · exact he'
        · exact hcl e.on he' k hk'
      have hind : ∀ y ∈ l1, Ind y x := fun y hy => by
        have hp := (List.pairwise_append.1 hin).2.2 y hy x List.mem_cons_self
        refine hp.resolve_left fun hya => ?_
        have h1 := hanc _ hya
        obtain ⟨h2, h3⟩ := unl y (List.mem_append_left _ hy)
        rw [getD_tf (by omega), h1] at h3
        cases h3
      have hrun' := RunsF.front hind hrun
      cases hrun' with
      | cons h1 h2 t =>
        have hlen : (l1 ++ l2).length = n := by simp at hl ⊢; omega
        have hnext : ∀ v w' g', Sat F (push x.ws σ) (a.put x.o.dst v) w' g' → wpAny P .any ops Q n (listed.setIfInBounds x.p true) (a.put x.o.dst v) w' := fun v w' g' hs' => by
          refine ih (l1 ++ l2) (listed.setIfInBounds x.p true) (push x.ws σ) _ w' g' hlen (by simp [hs]) ?_ (fun y hy => hops y ?_) ?_ ?_ ?_ (by rw [get_push]; exact t) hs'
          · intro p hp
            have hso' := List.pairwise_append.1 hso
            by_cases e : p = x.p
            · subst e
              constructor
              · intro h; simp [hs, hilt] at h
              · rintro ⟨y, hy, hyp⟩
                exfalso
                rcases List.mem_append.1 hy with hy | hy
                · have := hso'.2.2 y hy x List.mem_cons_self; omega
                · have := (List.pairwise_cons.1 hso'.2.1).1 y hy; omega
            · rw [getD_set_ne true (Ne.symm e), hun p hp]
              constructor
              · rintro ⟨y, hy, hyp⟩
                refine ⟨y, ?_, hyp⟩
                rcases List.mem_append.1 hy with hy | hy
                · exact List.mem_append_left _ hy
                · rcases List.mem_cons.1 hy with rfl | hy
                  · exact absurd hyp.symm e
                  · exact List.mem_append_right _ hy
              · rintro ⟨y, hy, hyp⟩
                refine ⟨y, ?_, hyp⟩
                rcases List.mem_append.1 hy with hy | hy
                · exact List.mem_append_left _ hy
                · exact List.mem_append_right _ (List.mem_cons_of_mem _ hy)
          · rcases List.mem_append.1 hy with hy | hy
            · exact List.mem_append_left _ hy
            · exact List.mem_append_right _ (List.mem_cons_of_mem _ hy)
          · have := List.pairwise_append.1 hso
            exact List.pairwise_append.2 ⟨this.1, (List.pairwise_cons.1 this.2.1).2, fun y hy z hz => this.2.2 y hy z (List.mem_cons_of_mem _ hz)⟩
          · have := List.pairwise_append.1 hin
            exact List.pairwise_append.2 ⟨this.1, (List.pairwise_cons.1 this.2.1).2, fun y hy z hz => this.2.2 y hy z (List.mem_cons_of_mem _ hz)⟩
          · intro j hj k hk
            by_cases e : j = x.p
            · subst e; exact getD_set_true (hanc k hk)
            · rw [getD_set_ne false (Ne.symm e)] at hj
              exact getD_set_true (hcl j hj k hk)
        unfold wpOp
        simp only [hi2]
        rw [← hxo]
        rcases effG_ok htab hΦ hF hsat h1 hnext with ⟨hw, hwp⟩ | ⟨hw, hnx⟩
        · rw [if_pos hw]; exact .inl hwp
        · rw [if_neg (by rw [hw]; exact Bool.false_ne_true)]; exact hnx
end

/-! the checks -/
theorem memL_iff {l : Loc} {ms : List Loc} : memL l ms = true ↔ l ∈ ms := by
  induction ms with
  | nil => simp [memL]
  | cons m ms ih => simp [memL, ih, Loc.beq_iff]
theorem disj_ok {a b : List Loc} (h : disj a b = true) : ∀ l ∈ a, l ∉ b := fun l hl hb => by
  simp only [disj, List.all_eq_true] at h
  have := h l hl
  rw [memL_iff.2 hb] at this
  cases this
theorem edgesOk_ok : ∀ (l : List Oper) (i : Nat), edgesOk l i = true → ∀ (j : Nat) o, l[j]? = some o → ∀ e ∈ o.after, Region.binds .any e = true → e.on < i + j
  | [], i, _, j, o, hj, _, _, _ => by simp at hj
  | x :: l, i, h, j, o, hj, e, he, hb => by
    simp only [edgesOk, Bool.and_eq_true, List.all_eq_true] at h
    cases j with
    | zero =>
      simp at hj
      subst hj
      have := h.1 e (by simpa using he)
      rw [hb] at this
      simpa using this
    | succ j =>
      have := edgesOk_ok l (i + 1) h.2 j o (by simpa using hj) e he hb
      omega
theorem hasB_iff (m j : Nat) : hasB m j = m.testBit j := by
  have h1 : Nat.land (Nat.shiftRight m j) 1 = (m >>> j) % 2 := Nat.and_one_is_mod _
  unfold hasB
  rw [h1, Nat.testBit_eq_decide_div_mod_eq, Nat.shiftRight_eq_div_pow]
  cases Nat.mod_two_eq_zero_or_one (m / 2 ^ j) with
  | inl h => rw [h]; rfl
  | inr h => rw [h]; rfl
theorem hasB_lor (a b j : Nat) : hasB (Nat.lor a b) j = (hasB a j || hasB b j) := by
  rw [hasB_iff, hasB_iff, hasB_iff]
  exact Nat.testBit_or a b j
theorem hasB_one (i j : Nat) : hasB (Nat.shiftLeft 1 i) j = true → j = i := by
  rw [hasB_iff]
  intro h
  have h : (1 <<< i).testBit j = true := h
  rw [Nat.shiftLeft_eq, Nat.one_mul, Nat.testBit_two_pow] at h
  exact (of_decide_eq_true h).symm
theorem ancOf_ok (acc : List Nat) (k : Nat) : ∀ (l : List Edge) (m : Nat), hasB (ancOf acc l m) k = true → hasB m k = true ∨ ∃ e ∈ l, Region.binds .any e = true ∧ (k = e.on ∨ hasB (acc.getD e.on 0) k = true)
  | [], m, h => .inl h
  | e :: l, m, h => by
    unfold ancOf at h
    split at h
    · rename_i hb
      rcases ancOf_ok acc k l _ h with h1 | ⟨e', he', h1⟩
      · rw [hasB_lor, hasB_lor, Bool.or_eq_true, Bool.or_eq_true] at h1
        rcases h1 with h1 | h1 | h1
        · exact .inl h1
        · exact .inr ⟨e, List.mem_cons_self, hb, .inl (hasB_one _ _ h1)⟩
        · exact .inr ⟨e, List.mem_cons_self, hb, .inr h1⟩
      · exact .inr ⟨e', List.mem_cons_of_mem _ he', h1⟩
    · rcases ancOf_ok acc k l _ h with h1 | ⟨e', he', h1⟩
      · exact .inl h1
      · exact .inr ⟨e', List.mem_cons_of_mem _ he', h1⟩
theorem ancs_prefix : ∀ (l : List Oper) (acc : List Nat) (j : Nat), j < acc.length → (ancs l acc).getD j 0 = acc.getD j 0
  | [], acc, j, _ => rfl
  | o :: l, acc, j, h => by
    simp only [ancs]
    rw [ancs_prefix l _ j (by simp; omega)]
    simp only [List.getD_eq_getElem?_getD]
    rw [List.getElem?_append_left h]
theorem ancs_ok : ∀ (l : List Oper) (acc : List Nat), (∀ (j : Nat) o, l[j]? = some o → ∀ e ∈ o.after, Region.binds .any e = true → e.on < acc.length + j) →
    ∀ (j : Nat) o, l[j]? = some o → ∀ k, hasB ((ancs l acc).getD (acc.length + j) 0) k = true → ∃ e ∈ o.after, Region.binds .any e = true ∧ (k = e.on ∨ hasB ((ancs l acc).getD e.on 0) k = true)
  | [], acc, _, j, o, hj, _, _ => by simp at hj
  | x :: l, acc, hb, j, o, hj, k, hk => by
    simp only [ancs] at hk ⊢
    cases j with
    | zero =>
      simp at hj
      subst hj
      rw [ancs_prefix l _ _ (by simp)] at hk
      simp only [List.getD_eq_getElem?_getD, Nat.add_zero] at hk
      rw [List.getElem?_append_right (Nat.le_refl _)] at hk
      simp only [Nat.sub_self, List.getElem?_cons_zero, Option.getD_some] at hk
      rcases ancOf_ok acc k _ _ hk with h0 | ⟨e, he, hbe, h1⟩
      · rw [hasB_iff, Nat.zero_testBit] at h0; cases h0
      · have he' : e ∈ x.after := by simpa using he
        refine ⟨e, he', hbe, h1.imp id fun h2 => ?_⟩
        have hlt := hb 0 x rfl e he' hbe
        rw [ancs_prefix l _ _ (by simp; omega)]
        simp only [List.getD_eq_getElem?_getD]
        rw [List.getElem?_append_left (by omega)]
        simpa [List.getD_eq_getElem?_getD] using h2
    | succ j =>
      have hlen : ∀ (y : Nat), (acc ++ [y]).length + j = acc.length + (j + 1) := fun y => by simp; omega
      exact ancs_ok l (acc ++ [ancOf acc x.after.toList 0]) (fun j' o' hj' e he hbe => by
        have := hb (j' + 1) o' (by simpa using hj') e he hbe
        simp only [List.length_append, List.length_cons, List.length_nil]; omega) j o (by simpa using hj) k (by rw [hlen]; exact hk)
theorem indepRow_ok {anc : Nat} {x : List Loc × List Loc} : ∀ (l : List (List Loc × List Loc)) (j : Nat), indepRow anc x l j = true → ∀ (i : Nat) y, l[i]? = some y → hasB anc (j + i) = true ∨ (disj y.2 x.1 = true ∧ disj y.2 x.2 = true ∧ disj y.1 x.2 = true)
  | [], j, _, i, y, hi => by simp at hi
  | z :: l, j, h, i, y, hi => by
    simp only [indepRow, Bool.and_eq_true, Bool.or_eq_true] at h
    cases i with
    | zero =>
      simp at hi
      subst hi
      rcases h.1 with h1 | h1
      · exact .inl h1
      · exact .inr ⟨h1.1.1, h1.1.2, h1.2⟩
    | succ i =>
      have := indepRow_ok l (j + 1) h.2 i y (by simpa using hi)
      rw [show j + (i + 1) = j + 1 + i by omega]
      exact this
theorem indepB_ok {an : List Nat} : ∀ (l before : List (List Loc × List Loc)) (j : Nat), before.length = j → indepB an before l j = true →
    ∀ (i k : Nat) x y, i < k → (before ++ l)[i]? = some x → (before ++ l)[k]? = some y → j ≤ k → hasB (an.getD k 0) i = true ∨ (disj x.2 y.1 = true ∧ disj x.2 y.2 = true ∧ disj x.1 y.2 = true)
  | [], before, j, hb, _, i, k, x, y, _, _, hy, hk => by
    simp at hy
    have := (List.getElem?_eq_some_iff.1 hy).1
    omega
  | z :: l, before, j, hb, h, i, k, x, y, hik, hx, hy, hk => by
    simp only [indepB, Bool.and_eq_true] at h
    by_cases e : k = j
    · subst e
      have hz : y = z := by
        rw [List.getElem?_append_right (by omega)] at hy
        simp [hb] at hy
        exact hy.symm
      subst hz
      rw [List.getElem?_append_left (by omega)] at hx
      have := indepRow_ok before 0 h.1 i x hx
      rw [Nat.zero_add] at this
      exact this
    · have := indepB_ok l (before ++ [z]) (j + 1) (by simp [hb]) h.2 i k x y hik (by simpa using hx) (by simpa using hy) (by omega)
      exact this

theorem memK_eq {R : Type} : ∀ (σ acc : St) (k : St → Option R), memK σ acc k = k (push ((σ.filter isMem).reverse ++ acc) [])
  | [], acc, k => by simp [memK, appK_eq]
  | w :: σ, acc, k => by
    unfold memK
    cases hw : isMem w with
    | true => rw [memK_eq σ (w :: acc) k]; simp [hw]
    | false => rw [memK_eq σ acc k]; simp [hw]
theorem push_rev (l : St) : push l.reverse [] = l := by simp [push]
theorem get_filter (σ : St) (l : Loc) (h : ∀ c, isMem (l, c) = true) : get (σ.filter isMem) l = get σ l := by
  induction σ with
  | nil => rfl
  | cons x σ ih =>
    obtain ⟨m, c⟩ := x
    by_cases hm : isMem (m, c) = true
    · rw [List.filter_cons_of_pos hm, get_cons, get_cons, ih]
    · rw [List.filter_cons_of_neg hm, ih, get_cons, if_neg fun e : l = m => hm (by rw [← e]; exact h c)]
theorem get_filter_t (σ : St) (t : Nat) : get (σ.filter isMem) (.t t) = .no := by
  induction σ with
  | nil => rfl
  | cons x σ ih =>
    obtain ⟨m, c⟩ := x
    cases m with
    | t n => rw [List.filter_cons_of_neg (by simp [isMem])]; exact ih
    | r n => rw [List.filter_cons_of_pos (by rfl), get_cons, if_neg (by simp)]; exact ih
    | b n => rw [List.filter_cons_of_pos (by rfl), get_cons, if_neg (by simp)]; exact ih
theorem pruneK_some {R : Type} {σ0 : St} {k : St → Option R} {r : R} : ∀ (ts : List Nat) (acc : St), pruneK σ0 ts acc k = some r →
    ∃ τ, k τ = some r ∧ (∀ i, get τ (.r i) = get acc (.r i)) ∧ (∀ i, get τ (.b i) = get acc (.b i)) ∧ ∀ t x, get τ (.t t) = .av x → get acc (.t t) = .av x ∨ get σ0 (.t t) = .av x
  | [], acc, h => ⟨acc, h, fun _ => rfl, fun _ => rfl, fun _ _ h => .inl h⟩
  | t :: ts, acc, h => by
    unfold pruneK at h
    rw [lookupK_eq] at h
    split at h
    · rename_i x hx
      obtain ⟨τ, h1, h2, h3, h4⟩ := pruneK_some ts _ h
      refine ⟨τ, h1, fun i => (h2 i).trans (get_other (by simp) _ _), fun i => (h3 i).trans (get_other (by simp) _ _), fun t' y hy => ?_⟩
      rcases h4 t' y hy with h' | h'
      · rw [get_cons] at h'
        split at h'
        · rename_i e
          injection e with e
          subst e
          right; rw [hx]; exact h'
        · exact .inl h'
      · exact .inr h'
    · exact pruneK_some ts acc h
/-- The state behind a region: slots that live. -/
theorem tail_some {R : Type} {F : Fr} {σ : St} {keep : List Nat} {k : St → Option R} {r : R} (h : (memK σ [] fun m => pruneK σ keep m k) = some r) : ∃ τ, k τ = some r ∧ ∀ a w g, Sat F σ a w g → Sat F τ a w g := by
  rw [memK_eq] at h
  simp only [List.append_nil] at h
  have e : push (σ.filter isMem).reverse [] = σ.filter isMem := push_rev _
  rw [e] at h
  obtain ⟨τ, h1, h2, h3, h4⟩ := pruneK_some keep _ h
  refine ⟨τ, h1, fun a w g hs => hs.weaken (fun t x hx => ?_) (fun i => (h2 i).trans (get_filter σ _ fun _ => rfl)) fun i => (h3 i).trans (get_filter σ _ fun _ => rfl)⟩
  rcases h4 t x hx with h | h
  · rw [get_filter_t] at h; cases h
  · exact h
/-- A region. -/
theorem region_ok {P : Program} {cx : Cx} {F : Fr} {fi : FnI} (htab : TabOk P cx) (hΦ : Sound P cx.ek cx.Φ) (hF : F.ek = cx.ek) (hnt : fi.nt = F.nt) (hmix : P.follows .mixedOrders = true) {R : Type} {id : Nat} {ops : Array Oper} {draw : Bool} {σ : St} {k : St → Option R} {r : R} {a : Act} {w : World} {g : Gm}
    (h : regionK cx fi id ops draw σ k = some r) (hs : Sat F σ a w g) {Q : Exit → Act → World → Prop} (hQ : ∀ τ a' w' g', k τ = some r → Sat F τ a' w' g' → Q .normal a' w') : (Code.region id ops draw).wp P Q a w := by
  unfold regionK at h
  rw [hnt] at h
  cases draw with
  | false =>
    refine wp_region_list (opsK_seq htab hΦ hF (fun σ' log' a' w' g' hk hs' => ?_) ops.toList 0 σ [] a w g h hs)
    obtain ⟨τ, h1, h2⟩ := tail_some (F := F) hk
    exact hQ τ a' w' g' h1 (h2 a' w' g' hs')
  | true =>
    obtain ⟨its, σ', e1, e2, e3⟩ := opsK_items ops.toList 0 σ [] h
    dsimp only at e3
    · split at e3
      · rename_i hchk
        simp only [Bool.and_eq_true] at hchk
        obtain ⟨hedge, hind⟩ := hchk
        simp only [List.append_nil, List.reverse_reverse] at hind
        obtain ⟨τ, h1, h2⟩ := tail_some (F := F) e3
        have hlen : its.length = ops.size := by
          have := congrArg List.length e1
          simpa using this
        have hget : ∀ (j : Nat) x, its[j]? = some x → x.p = j ∧ ops[j]? = some x.o := fun j x hx => by
          have h' : (its.map fun x => (x.p, x.o))[j]? = some (x.p, x.o) := by simp [hx]
          rw [e1] at h'
          simp only [List.getElem?_map, List.getElem?_zipIdx, Option.map_map, Option.map_eq_some_iff] at h'
          obtain ⟨o', ho', he'⟩ := h'
          simp only [Function.comp, Prod.mk.injEq] at he'
          obtain ⟨e4, e5⟩ := he'
          subst e5
          refine ⟨by omega, ?_⟩
          simpa using ho'
        have hA : AncOk ops (fun j k => hasB ((ancs ops.toList []).getD j 0) k = true) := ⟨fun j o hj e he hb => by
            have := edgesOk_ok ops.toList 0 hedge j o (by simpa using hj) e he hb
            omega, fun j o hj k hk => by
            have := ancs_ok ops.toList [] (fun j o hj e he hb => by have := edgesOk_ok ops.toList 0 hedge j o hj e he hb; simpa using this) j o (by simpa using hj) k (by simpa using hk)
            exact this⟩
        refine wp_region_any hmix ?_
        have hsd : Sat F σ a { w with drawn := w.drawn + 1 } g := hs.world (Chg.drew (fun _ => False) w) fun _ _ hx => hx.elim
        rw [← hlen]
        refine any_ok htab hΦ hF hA (H := get σ') (fun σ2 a' w' g' hg hs2 => hQ τ a' w' g' h1 (h2 a' w' g' (hs2.ext fun l => by rw [hg]))) its.length its _ σ a _ g rfl (by simp [hlen]) ?_ ?_ ?_ ?_ ?_ e2 hsd
        · intro p hp
          constructor
          · intro _
            have hlt : p < its.length := by omega
            exact ⟨its[p], List.getElem_mem hlt, (hget p _ (List.getElem?_eq_getElem hlt)).1⟩
          · intro _
            simp [hlen, hp]
        · intro x hx
          obtain ⟨j, hj, rfl⟩ := List.getElem_of_mem hx
          obtain ⟨h3, h4⟩ := hget j _ (List.getElem?_eq_getElem hj)
          rw [h3]; exact h4
        · rw [List.pairwise_iff_getElem]
          intro i j hi hj hij
          have := (hget i _ (List.getElem?_eq_getElem hi)).1
          have := (hget j _ (List.getElem?_eq_getElem hj)).1
          omega
        · rw [List.pairwise_iff_getElem]
          intro i j hi hj hij
          have p1 := (hget i _ (List.getElem?_eq_getElem hi)).1
          have p2 := (hget j _ (List.getElem?_eq_getElem hj)).1
          have := indepB_ok _ [] 0 rfl hind i j (its[i].rs.reverse, keys its[i].ws) (its[j].rs.reverse, keys its[j].ws) hij (by simp [hi]) (by simp [hj]) (Nat.zero_le _)
          rw [p1, p2]
          refine this.imp (fun h => h) fun ⟨d1, d2, d3⟩ => ⟨fun l hl hr => disj_ok d1 l hl (by simpa using hr), fun l hl => disj_ok d2 l hl, fun l hl => disj_ok d3 l (by simpa using hl)⟩
        · intro j hj
          exfalso
          by_cases hlt : j < ops.size
          · simp [hlen, hlt] at hj
          · simp [hlen, hlt] at hj
      · cases e3
end Vx
/- At a loop's head: the state under new numbers. -/
namespace Vx
open Go Go.RowKit

theorem posOf_ok : ∀ (l : List Nat) (n i j : Nat), posOf n l i = some j → i ≤ j ∧ l[j - i]? = some n
  | [], n, i, j, h => by cases h
  | m :: l, n, i, j, h => by
    unfold posOf at h
    split at h
    · rename_i hb
      cases h
      have := Nat.eq_of_beq_eq_true hb
      subst this
      exact ⟨Nat.le_refl _, by simp⟩
    · obtain ⟨h1, h2⟩ := posOf_ok l n (i + 1) j h
      refine ⟨by omega, ?_⟩
      rw [show j - i = (j - (i + 1)) + 1 by omega, List.getElem?_cons_succ]
      exact h2
theorem nodupB_ok : ∀ (l : List Nat), nodupB l = true → ∀ (i j : Nat) n, l[i]? = some n → l[j]? = some n → i = j
  | [], _, i, j, n, hi, _ => by simp at hi
  | m :: l, h, i, j, n, hi, hj => by
    simp only [nodupB, Bool.and_eq_true, Bool.not_eq_true', List.any_eq_false] at h
    cases i with
    | zero =>
      cases j with
      | zero => rfl
      | succ j =>
        simp at hi hj
        subst hi
        exact absurd (Nat.beq_refl m) (h.1 m (List.mem_of_getElem? hj))
    | succ i =>
      cases j with
      | zero =>
        simp at hi hj
        subst hj
        exact absurd (Nat.beq_refl m) (h.1 m (List.mem_of_getElem? hi))
      | succ j =>
        have := nodupB_ok l h.2 i j n (by simpa using hi) (by simpa using hj)
        omega
theorem renR_ok {σ : St} : ∀ (is : List Nat) (j0 : Nat) (acc τ : St), renR σ is j0 acc = some τ →
    (∀ (k i : Nat), is[k]? = some i → ∃ fr d, get σ (.r i) = .row true fr d ∧ get τ (.r (j0 + k)) = .row true fr d) ∧ ∀ l, (∀ k, k < is.length → l ≠ .r (j0 + k)) → get τ l = get acc l
  | [], j0, acc, τ, h => by
    cases h
    exact ⟨fun k i hk => by simp at hk, fun _ _ => rfl⟩
  | i :: is, j0, acc, τ, h => by
    unfold renR at h
    split at h
    · rename_i fr d hd
      obtain ⟨h1, h2⟩ := renR_ok is (j0 + 1) _ τ h
      refine ⟨fun k n hk => ?_, fun l hl => ?_⟩
      · cases k with
        | zero =>
          simp at hk
          subst hk
          refine ⟨fr, d, hd, ?_⟩
          rw [h2 _ fun k _ => by intro e; injection e; omega]
          exact get_same _ _ _
        | succ k =>
          obtain ⟨fr', d', e1, e2⟩ := h1 k n (by simpa using hk)
          exact ⟨fr', d', e1, by rw [show j0 + (k + 1) = j0 + 1 + k by omega]; exact e2⟩
      · rw [h2 l fun k hk => by
          have := hl (k + 1) (by simpa using hk)
          rwa [show j0 + (k + 1) = j0 + 1 + k by omega] at this]
        exact get_other (by have := hl 0 (by simp); simpa using this) _ _
    · cases h
theorem renB_ok {σ : St} {rm : List Nat} : ∀ (bs : List Nat) (j0 : Nat) (acc τ : St), renB σ rm bs j0 acc = some τ →
    (∀ (k b : Nat), bs[k]? = some b → ∃ cs cs', get σ (.b b) = .box cs ∧ renCs σ rm cs = some cs' ∧ get τ (.b (j0 + k)) = .box cs') ∧ ∀ l, (∀ k, k < bs.length → l ≠ .b (j0 + k)) → get τ l = get acc l
  | [], j0, acc, τ, h => by
    cases h
    exact ⟨fun k i hk => by simp at hk, fun _ _ => rfl⟩
  | b :: bs, j0, acc, τ, h => by
    unfold renB at h
    split at h
    · rename_i cs hcs
      split at h
      · rename_i cs' hcs'
        obtain ⟨h1, h2⟩ := renB_ok bs (j0 + 1) _ τ h
        refine ⟨fun k n hk => ?_, fun l hl => ?_⟩
        · cases k with
          | zero =>
            simp at hk
            subst hk
            refine ⟨cs, cs', hcs, hcs', ?_⟩
            rw [h2 _ fun k _ => by intro e; injection e; omega]
            exact get_same _ _ _
          | succ k =>
            obtain ⟨cs1, cs2, e1, e2, e3⟩ := h1 k n (by simpa using hk)
            exact ⟨cs1, cs2, e1, e2, by rw [show j0 + (k + 1) = j0 + 1 + k by omega]; exact e3⟩
        · rw [h2 l fun k hk => by
            have := hl (k + 1) (by simpa using hk)
            rwa [show j0 + (k + 1) = j0 + 1 + k by omega] at this]
          exact get_other (by have := hl 0 (by simp); simpa using this) _ _
      · cases h
    · cases h
theorem renT_ok {σ : St} {rm bm : List Nat} : ∀ (ts : List Nat) (acc τ : St), renT σ rm bm ts acc = some τ →
    (∀ i, get τ (.r i) = get acc (.r i)) ∧ (∀ i, get τ (.b i) = get acc (.b i)) ∧ ∀ t x', get τ (.t t) = .av x' → get acc (.t t) = .av x' ∨ ∃ x, get σ (.t t) = .av x ∧ renA σ rm bm x = some x'
  | [], acc, τ, h => by
    cases h
    exact ⟨fun _ => rfl, fun _ => rfl, fun _ _ h => .inl h⟩
  | t :: ts, acc, τ, h => by
    unfold renT at h
    split at h
    · rename_i x hx
      split at h
      · rename_i x' hx'
        obtain ⟨h1, h2, h3⟩ := renT_ok ts _ τ h
        refine ⟨fun i => (h1 i).trans (get_other (by simp) _ _), fun i => (h2 i).trans (get_other (by simp) _ _), fun t' y hy => ?_⟩
        rcases h3 t' y hy with h' | h'
        · rw [get_cons] at h'
          split at h'
          · rename_i e
            injection e with e
            subst e
            cases h'
            exact .inr ⟨x, hx, hx'⟩
          · exact .inl h'
        · exact .inr h'
      · exact renT_ok ts acc τ h
    · exact renT_ok ts acc τ h
theorem preB_ok : ∀ (n i : Nat) (bs : List Nat), preB n i bs = true → ∀ k, k < n → bs[k]? = some (i + k)
  | 0, i, bs, _, k, hk => by omega
  | n + 1, i, [], h, _, _ => by cases h
  | n + 1, i, b :: bs, h, k, hk => by
    simp only [preB, Bool.and_eq_true] at h
    have hb := Nat.eq_of_beq_eq_true h.1
    cases k with
    | zero => simp [hb]
    | succ k =>
      rw [List.getElem?_cons_succ, preB_ok n (i + 1) bs h.2 k (by omega)]
      congr 1; omega
section
variable {F : Fr} {σ : St} {a : Act} {w : World} {g : Gm}
def renG (g : Gm) (rm bm : List Nat) : Gm := { ob := fun j => g.ob (rm.getD j 0), rv := fun j => g.rv (rm.getD j 0), wd := fun j => g.wd (rm.getD j 0), ln := fun j => g.ln (rm.getD j 0), bb := fun j => g.bb (bm.getD j 0), G := g.G, dr := fun j => j < rm.length, db := fun j => j < bm.length }
theorem getD_of {l : List Nat} {j n : Nat} (h : l[j]? = some n) : l.getD j 0 = n := by simp [List.getD_eq_getElem?_getD, h]
theorem renC_ok (h : Sat F σ a w g) {rm bm : List Nat} {c c' : Cell} {u : Value} (hu : CellRep g F.N w u c) (hr : renC σ rm c = some c') : CellRep (renG g rm bm) F.N w u c' := by
  unfold renC at hr
  split at hr
  · cases hr; exact hu
  · cases hr; exact hu
  · rename_i i
    obtain ⟨h1, rfl⟩ := hu
    split at hr
    · split at hr
      · rename_i j hj
        cases hr
        obtain ⟨_, hp⟩ := posOf_ok _ _ _ _ hj
        simp only [Nat.sub_zero] at hp
        exact ⟨(List.getElem?_eq_some_iff.1 hp).1, congrArg g.rv (getD_of hp).symm⟩
      · cases hr
    · rename_i fr d hd
      cases hr
      exact (h.row i false fr d hd).2.2
    · cases hr
theorem renCs_ok (h : Sat F σ a w g) {rm bm : List Nat} : ∀ {cs cs' : List Cell} {us : List Value} (_ : All2 (CellRep g F.N w) us cs) (_ : renCs σ rm cs = some cs'), All2 (CellRep (renG g rm bm) F.N w) us cs'
  | [], _, _, .nil, hr => by cases hr; exact .nil
  | c :: cs, _, _, .cons hu hus, hr => by
    unfold renCs at hr
    split at hr
    · rename_i c' hc
      split at hr
      · rename_i cs' hcs
        cases hr
        exact .cons (renC_ok h hu hc) (renCs_ok h hus hcs)
      · cases hr
    · cases hr
theorem renA_ok (h : Sat F σ a w g) {rm bm : List Nat} {x x' : AV} {u : Value} (hu : AVRep g F.N w u x) (hr : renA σ rm bm x = some x') : AVRep (renG g rm bm) F.N w u x' := by
  unfold renA at hr
  split at hr
  · split at hr
    · rename_i c' hc
      cases hr
      exact renC_ok (c := _) h hu hc
    · cases hr
  · split at hr
    · rename_i c' hc
      cases hr
      obtain ⟨us, e, hall⟩ := hu
      exact ⟨us, e, renCs_ok h hall hc⟩
    · cases hr
  · split at hr
    · rename_i j hj
      cases hr
      obtain ⟨_, hp⟩ := posOf_ok _ _ _ _ hj
      simp only [Nat.sub_zero] at hp
      refine ⟨(List.getElem?_eq_some_iff.1 hp).1, ?_⟩
      rw [hu.2]
      show _ = Value.pointer (some ⟨g.bb (bm.getD j 0), _, none⟩)
      rw [getD_of hp]
    · cases hr
  · split at hr
    · split at hr
      · rename_i j hj
        cases hr
        obtain ⟨_, hp⟩ := posOf_ok _ _ _ _ hj
        simp only [Nat.sub_zero] at hp
        obtain ⟨_, ad, len, cap, h2, h3⟩ := hu
        refine ⟨(List.getElem?_eq_some_iff.1 hp).1, ad, len, cap, ?_, h3⟩
        show g.rv (rm.getD j 0) = _
        rw [getD_of hp]; exact h2
      · cases hr
    · cases hr
  · cases hr
theorem norm_ok (h : Sat F σ a w g) {live : List Nat} {p : List Nat × List Nat} {τ : St} (hr : normWith σ live F.pb.length p = some τ) : ∃ g', Sat F τ a w g' := by
  obtain ⟨rm, bm⟩ := p
  unfold normWith at hr
  split at hr
  · rename_i hn
    simp only [Bool.and_eq_true] at hn
    obtain ⟨hn1, hn2, hn3⟩ := hn
    split at hr
    · rename_i m hm
      split at hr
      · rename_i m' hm'
        obtain ⟨r1, r2⟩ := renR_ok rm 0 [] m hm
        obtain ⟨b1, b2⟩ := renB_ok bm 0 m m' hm'
        obtain ⟨t1, t2, t3⟩ := renT_ok live m' τ hr
        simp only [Nat.zero_add] at r1 r2 b1 b2
        have hrow : ∀ j c, get τ (.r j) = c → c ≠ .no → ∃ i fr d, rm[j]? = some i ∧ get σ (.r i) = .row true fr d ∧ c = .row true fr d := fun j c hc hne => by
          rw [t1, b2 _ (fun _ _ => by simp)] at hc
          by_cases hlt : j < rm.length
          · obtain ⟨fr, d, e1, e2⟩ := r1 j _ (List.getElem?_eq_getElem hlt)
            exact ⟨_, fr, d, List.getElem?_eq_getElem hlt, e1, by rw [← hc, e2]⟩
          · rw [r2 _ fun k hk e => by injection e; omega] at hc
            exact absurd hc.symm hne
        have hbox : ∀ j c, get τ (.b j) = c → c ≠ .no → ∃ b cs cs', bm[j]? = some b ∧ get σ (.b b) = .box cs ∧ renCs σ rm cs = some cs' ∧ c = .box cs' := fun j c hc hne => by
          rw [t2] at hc
          by_cases hlt : j < bm.length
          · obtain ⟨cs, cs', e1, e2, e3⟩ := b1 j _ (List.getElem?_eq_getElem hlt)
            exact ⟨_, cs, cs', List.getElem?_eq_getElem hlt, e1, e2, by rw [← hc, e3]⟩
          · rw [b2 _ fun k hk e => by injection e; omega, r2 _ fun k hk e => by cases e] at hc
            exact absurd hc.symm hne
        refine ⟨renG g rm bm, h.chg, h.base, h.defs, h.nts, fun t x hx => ?_, fun j own fr d hj => ?_, fun j cs hj => ?_, fun j hj => ?_, fun j hj => ?_, h.gb, fun i j fr d fr' d' b hij hi hj hb hb' => ?_, fun b c cs cs' hbc hb hc e => ?_, fun i b fr d cs hi hb e => ?_, fun j n hj => ?_, h.ga⟩
        · rcases t3 t x hx with h' | ⟨y, hy, hy'⟩
          · rw [b2 _ (fun _ _ => by simp), r2 _ (fun _ _ => by simp)] at h'
            cases h'
          · exact renA_ok h (h.tmp t y hy) hy'
        · obtain ⟨i, fr', d', e1, e2, e3⟩ := hrow j _ hj (by simp)
          cases e3
          obtain ⟨q1, q2, q3⟩ := h.row i true fr d e2
          refine ⟨(List.getElem?_eq_some_iff.1 e1).1, ?_, ?_⟩
          · show g.wd (rm.getD j 0) = _ ∧ g.ln (rm.getD j 0) = _
            rw [getD_of e1]; exact q2
          · show (∃ e, ekOf F.ek d.kind = some e ∧ OwnRep w (rg (PG g F.N fr) d (g.ob (rm.getD j 0))) e (g.rv (rm.getD j 0)) d ∧ Obk w (g.rv (rm.getD j 0)) d (g.ob (rm.getD j 0))) ∧ ∀ b, b ∈ g.ob (rm.getD j 0) → _
            rw [getD_of e1]; exact q3
        · obtain ⟨b, cs0, cs', e1, e2, e3, e4⟩ := hbox j _ hj (by simp)
          cases e4
          obtain ⟨q1, us, ty, q2, q3, q4, q5⟩ := h.box b cs0 e2
          refine ⟨(List.getElem?_eq_some_iff.1 e1).1, us, ty, ?_, renCs_ok h q3 e3, ?_, ?_⟩
          · show w.heap[g.bb (bm.getD j 0)]? = _
            rw [getD_of e1]; exact q2
          · show ¬ g.G (g.bb (bm.getD j 0))
            rw [getD_of e1]; exact q4
          · show F.base ≤ g.bb (bm.getD j 0) ∨ F.M (g.bb (bm.getD j 0))
            rw [getD_of e1]; exact q5
        · have hj' : j < rm.length := hj
          obtain ⟨fr, d, e1, e2⟩ := r1 j _ (List.getElem?_eq_getElem hj')
          refine ⟨by rw [t1, b2 _ (fun _ _ => by simp), e2]; simp, ?_⟩
          show ∃ A l c, g.rv (rm.getD j 0) = .slice A l c
          rw [getD_of (List.getElem?_eq_getElem hj')]
          exact (h.dr _ (h.row _ _ _ _ e1).1).2
        · have hj' : j < bm.length := hj
          obtain ⟨cs, cs', e1, e2, e3⟩ := b1 j _ (List.getElem?_eq_getElem hj')
          rw [t2, e3]; simp
        · obtain ⟨i', f1, d1, e1, e2, e3⟩ := hrow i _ hi (by simp)
          obtain ⟨j', f2, d2, e4, e5, e6⟩ := hrow j _ hj (by simp)
          have hb1 : b ∈ g.ob i' := by rw [← getD_of e1]; exact hb
          have hb2 : b ∈ g.ob j' := by rw [← getD_of e4]; exact hb'
          refine h.sepR i' j' _ _ _ _ b (fun e => hij ?_) e2 e5 hb1 hb2
          subst e
          exact nodupB_ok rm hn1 i j _ e1 e4
        · obtain ⟨b', cs1, cs2, e1, e2, e3, e4⟩ := hbox b _ hb (by simp)
          obtain ⟨c', cs3, cs4, e5, e6, e7, e8⟩ := hbox c _ hc (by simp)
          have e' : g.bb b' = g.bb c' := by rw [← getD_of e1, ← getD_of e5]; exact e
          refine h.sepB b' c' _ _ (fun e0 => hbc ?_) e2 e6 e'
          subst e0
          exact nodupB_ok bm hn2 b c _ e1 e5
        · obtain ⟨i', f1, d1, e1, e2, e3⟩ := hrow i _ hi (by simp)
          obtain ⟨b', cs1, cs2, e4, e5, e6, e7⟩ := hbox b _ hb (by simp)
          refine h.sepRB i' b' _ _ _ e2 e5 ?_
          rw [← getD_of e1, ← getD_of e4]; exact e
        · have hlt := (List.getElem?_eq_some_iff.1 hj).1
          have hp := preB_ok _ 0 bm hn3 j hlt
          rw [Nat.zero_add] at hp
          refine ⟨(List.getElem?_eq_some_iff.1 hp).1, ?_⟩
          show g.bb (bm.getD j 0) = n
          rw [getD_of hp]
          exact (h.pb j n hj).2
      · cases hr
    · cases hr
  · cases hr
theorem frzL_ok : ∀ (l : List Nat) {σ : St} {g : Gm} (_ : Sat F σ a w g), ∃ g', Sat F (frzL l σ) a w g'
  | [], σ, g, h => ⟨g, h⟩
  | t :: ts, σ, g, h => by
    unfold frzL
    split
    · exact frzL_ok ts h
    · split
      · split
        · rename_i i _ fr d hd
          obtain ⟨g', h', _⟩ := h.freeze hd
          exact frzL_ok ts h'
        · exact frzL_ok ts h
      · exact frzL_ok ts h
theorem norm_ok2 (h : Sat F σ a w g) {live : List Nat} {τ : St} (hr : norm live F.pb.length σ = some τ) : ∃ g', Sat F τ a w g' := by
  obtain ⟨g1, h1⟩ := frzL_ok live h
  exact norm_ok h1 hr
end
end Vx
/- Code: what the executor finds, the run does. -/
namespace Vx
open Go Go.RowKit

def PostK {R : Type} (F : Fr) (kn : St → Option R) (kx : Ex → St → Option R) (r : R) : Exit → Act → World → Prop
  | .normal, a, w => ∃ σ g, kn σ = some r ∧ Sat F σ a w g
  | .exit i, a, w => ∃ σ g, kx (.exit i) σ = some r ∧ Sat F σ a w g
  | .ret, a, w => ∃ σ g, kx .ret σ = some r ∧ Sat F σ a w g
  | _, _, _ => False
structure Setup (P : Program) (cx : Cx) (F : Fr) (fi : FnI) : Prop where
  tab : TabOk P cx
  sound : Sound P cx.ek cx.Φ
  ek : F.ek = cx.ek
  nt : fi.nt = F.nt
  nb : fi.nb = F.pb.length
  mix : P.follows .mixedOrders = true
theorem condK_ok {R : Type} {F : Fr} {σ : St} {a : Act} {w : World} {g : Gm} (h : Sat F σ a w g) {c : Operand} {t e : Unit → Option R} {r : R} (hr : condK c σ t e = some r) : ∃ b, a.eval c = .bool b ∧ (if b then t () else e ()) = some r := by
  unfold condK at hr
  split at hr
  · rename_i n
    rw [lookupK_eq] at hr
    split at hr
    · rename_i b hb
      have := h.tmp n _ hb
      refine ⟨b, this, ?_⟩
      cases b <;> exact hr
    · cases hr
  · rename_i b
    refine ⟨b, rfl, ?_⟩
    cases b <;> exact hr
  · cases hr
theorem cxK_ok {P : Program} {cx : Cx} {F : Fr} {fi : FnI} (S : Setup P cx F fi) {R : Type} (n : Nat) : ∀ (c : Code) (σ : St) (kn : St → Option R) (kx : Ex → St → Option R) (r : R) (a : Act) (w : World) (g : Gm),
    cxK cx fi n c σ kn kx = some r → Sat F σ a w g → c.wp P (PostK F kn kx r) a w := by
  intro c
  induction c with
  | skip => exact fun σ kn kx r a w g h hs => wp_skip ⟨σ, g, h, hs⟩
  | region id ops draw => exact fun σ kn kx r a w g h hs => region_ok S.tab S.sound S.ek S.nt S.mix h hs fun τ a' w' g' hk hs' => ⟨τ, g', hk, hs'⟩
  | seq x y ihx ihy =>
    intro σ kn kx r a w g h hs
    refine wp_seq (wp_mono (ihx σ _ kx r a w g h hs) fun e a' w' hq => ?_)
    cases e with
    | normal => obtain ⟨σ', g', h1, h2⟩ := hq; exact ihy σ' kn kx r a' w' g' h1 h2
    | exit i => exact hq
    | ret => exact hq
    | goto l => exact hq.elim
    | panic ch => exact hq.elim
    | outgrown => exact hq.elim
  | cond c x y ihx ihy =>
    intro σ kn kx r a w g h hs
    obtain ⟨b, h1, h2⟩ := condK_ok hs h
    cases b with
    | true => exact wp_cond_true h1 (ihx σ kn kx r a w g h2 hs)
    | false => exact wp_cond_false h1 (ihy σ kn kx r a w g h2 hs)
  | block id c ih =>
    intro σ kn kx r a w g h hs
    refine wp_block (wp_mono (ih σ kn _ r a w g h hs) fun e a' w' hq => ?_)
    cases e with
    | normal => exact hq
    | exit i =>
      obtain ⟨σ', g', h1, h2⟩ := hq
      show (if i = id then _ else _)
      simp only at h1
      split at h1
      · rename_i hb
        rw [if_pos (Nat.eq_of_beq_eq_true hb)]
        exact ⟨σ', g', h1, h2⟩
      · rename_i hb
        rw [if_neg fun e => by rw [e, Nat.beq_refl] at hb; cases hb]
        exact ⟨σ', g', h1, h2⟩
    | ret => exact hq
    | goto l => exact hq.elim
    | panic ch => exact hq.elim
    | outgrown => exact hq.elim
  | loop c ih =>
    intro σ kn kx r a w g h hs
    unfold cxK at h
    split at h
    · rename_i τ hτ
      rw [S.nb] at hτ
      obtain ⟨g1, hs1⟩ := norm_ok2 hs hτ
      refine wp_loop_ghost (fun m a' w' => ∃ σ' g', iter (fun σ' k => cxK cx fi n c σ' k kx) (fi.live (keyOf c)) fi.nb m σ' = some r ∧ Sat F σ' a' w' g') n ⟨τ, g1, h, hs1⟩ ?_
      intro m a' w' hI
      obtain ⟨σ', g', h1, h2⟩ := hI
      cases m with
      | zero => cases h1
      | succ m =>
        refine wp_mono (ih σ' _ kx r a' w' g' h1 h2) fun e a2 w2 hq => ?_
        cases e with
        | normal =>
          obtain ⟨σ2, g2, h3, h4⟩ := hq
          simp only at h3
          split at h3
          · rename_i τ2 hτ2
            rw [S.nb] at hτ2
            obtain ⟨g3, hs3⟩ := norm_ok2 h4 hτ2
            exact ⟨m, Nat.lt_succ_self m, τ2, g3, h3, hs3⟩
          · cases h3
        | exit i => exact hq
        | ret => exact hq
        | goto l => exact hq.elim
        | panic ch => exact hq.elim
        | outgrown => exact hq.elim
    · cases h
  | exit id => exact fun σ kn kx r a w g h hs => wp_exit ⟨σ, g, h, hs⟩
  | ret => exact fun σ kn kx r a w g h hs => wp_ret ⟨σ, g, h, hs⟩
  | rangeFunc f params assign body iha ihb => exact fun σ kn kx r a w g h hs => by cases h
  | scope body ih => exact fun σ kn kx r a w g h hs => by cases h
  | label l => exact fun σ kn kx r a w g h hs => by cases h
  | goto l => exact fun σ kn kx r a w g h hs => by cases h
  | refuse why => exact fun σ kn kx r a w g h hs => by cases h
end Vx
