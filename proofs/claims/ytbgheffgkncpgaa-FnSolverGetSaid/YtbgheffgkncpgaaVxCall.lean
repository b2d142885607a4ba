/- Calls: what the oracle's answers mean, and the operation. Conditions: those that each theorem states. -/
import Derived.Test.YtbgheffgkncpgaaVxOp9
set_option linter.unusedVariables false
set_option linter.unusedSimpArgs false
namespace Vx
open Go Go.RowKit

def SCRep (w : World) (A : Nat → Prop) (u : Value) : SC → Prop
  | .sc v => u = v
  | .row d => RowRep w A u d
/-- Arguments: A: the blocks that are read; bs: the boxes that are lent. -/
inductive ArgsRep (w : World) (A : Nat → Prop) : List Value → List DA → List Nat → Prop where
  | nil : ArgsRep w A [] [] []
  | c {u us x ds bs} (h : SCRep w A u x) (t : ArgsRep w A us ds bs) : ArgsRep w A (u :: us) (.c x :: ds) bs
  | agg {vs xs us ds bs} (h : All2 (SCRep w A) vs xs) (t : ArgsRep w A us ds bs) : ArgsRep w A (.agg vs.toArray :: us) (.agg xs :: ds) bs
  | bx {n ty vs xs us ds bs} (h0 : w.heap[n]? = some (.cells vs.toArray ty (0, 0))) (h : All2 (SCRep w A) vs xs) (hA : ¬ A n) (t : ArgsRep w A us ds bs) : ArgsRep w A (.pointer (some ⟨n, 0, none⟩) :: us) (.bx xs :: ds) (n :: bs)
def DARep (w : World) (R : Nat → Prop) (u : Value) : DA → Prop
  | .c x => SCRep w R u x
  | .agg xs => ∃ us : List Value, u = .agg us.toArray ∧ All2 (SCRep w R) us xs
  | .bx _ => False
def tupV : List Value → Value
  | [v] => v
  | vs => .tuple vs.toArray
def BxRep (w' : World) (R : Nat → Prop) (n : Nat) (cs : List SC) : Prop := ∃ (us : List Value) (ty : TypeId), w'.heap[n]? = some (.cells us.toArray ty (0, 0)) ∧ All2 (SCRep w' R) us cs
/-- Cells by flags: rows that are given away (their blocks), rows that are only read. -/
inductive SMix (ek : List (TypeId × RK)) (w : World) (A G' : Nat → Prop) : List Value → List SC → List RF → List RF → List Nat → Prop where
  | nil {os} : SMix ek w A G' [] [] os os []
  | sc {v us xs os os' bl} (t : SMix ek w A G' us xs os os' bl) : SMix ek w A G' (v :: us) (.sc v :: xs) os os' bl
  | ro {u us d xs os os' bl} (h : RowRep w G' u d) (t : SMix ek w A G' us xs os os' bl) : SMix ek w A G' (u :: us) (.row d :: xs) (.new :: os) os' bl
  | any {u us d xs os os' bl} (h : RowRep w (fun j => A j ∨ G' j) u d) (t : SMix ek w A G' us xs os os' bl) : SMix ek w A G' (u :: us) (.row d :: xs) (.any :: os) os' bl
  | own {u us d xs os os' bl e} (he : ekOf ek d.kind = some e) (h : OwnRep w G' e u d) (t : SMix ek w A G' us xs os os' bl) : SMix ek w A G' (u :: us) (.row d :: xs) (.own :: os) os' (u.ownBlock.toList ++ bl)
inductive DMix (ek : List (TypeId × RK)) (w : World) (A G' : Nat → Prop) : List Value → List DA → List RF → List Nat → Prop where
  | nil {os} : DMix ek w A G' [] [] os []
  | c {u us x ds os o1 b1 b2} (h : SMix ek w A G' [u] [x] os o1 b1) (t : DMix ek w A G' us ds o1 b2) : DMix ek w A G' (u :: us) (.c x :: ds) os (b1 ++ b2)
  | agg {vs us xs ds os o1 b1 b2} (h : SMix ek w A G' vs xs os o1 b1) (t : DMix ek w A G' us ds o1 b2) : DMix ek w A G' (.agg vs.toArray :: us) (.agg xs :: ds) os (b1 ++ b2)
theorem SMix.hasA {ek : List (TypeId × RK)} {w : World} {A G' : Nat → Prop} {us : List Value} {xs : List SC} {os os' : List RF} {bl : List Nat} (h : SMix ek w A G' us xs os os' bl) (ha : hasAny os' = true) : hasAny os = true := by
  induction h with
  | nil => exact ha
  | sc _ ih => exact ih ha
  | ro _ _ ih => exact ih ha
  | any _ _ _ => rfl
  | own _ _ _ ih => exact ih ha
/-- Results. G': new blocks that are only read. -/
def ResRep (ek : List (TypeId × RK)) (w0 w' : World) (A G' : Nat → Prop) (m : Md) (v : Value) (res : List DA) : Prop :=
  match m, res with
  | .mix os, res => ∃ vs bl, v = tupV vs ∧ DMix ek w' A G' vs res os bl ∧ bl.Nodup ∧ ∀ b ∈ bl, w0.heap.size ≤ b ∧ ¬ G' b
  | _, [.bx cs] => ∃ n, v = .pointer (some ⟨n, 0, none⟩) ∧ w0.heap.size ≤ n ∧ ¬ G' n ∧ BxRep w' (fun j => A j ∨ G' j) n cs
  | .fresh, res => ∃ vs, v = tupV vs ∧ All2 (DARep w' G') vs res
  | .alias, res => ∃ vs, v = tupV vs ∧ All2 (DARep w' fun j => A j ∨ G' j) vs res
  | _, _ => False
def Post (ek : List (TypeId × RK)) (w0 : World) (A : Nat → Prop) (bs : List Nat) (sp : Sp) (e : Ending) (w' : World) : Prop :=
  ∃ v, e = .returned v ∧ Chg (fun j => j ∈ bs) w0 w' ∧ ∃ G' : Nat → Prop, (∀ j, G' j → w0.heap.size ≤ j ∧ j < w'.heap.size) ∧ All2 (BxRep w' fun j => A j ∨ G' j) bs sp.outs ∧ ResRep ek w0 w' A G' sp.mode v sp.res
/-- Arguments with rows that are handed over; B: what those rows' elements lead to. -/
inductive GCells (ek : List (TypeId × RK)) (w : World) (B : Nat → Prop) : List Value → List SC → List Value → Prop where
  | nil : GCells ek w B [] [] []
  | sc {v us xs os} (t : GCells ek w B us xs os) : GCells ek w B (v :: us) (.sc v :: xs) os
  | own {u us d xs os e} (he : ekOf ek d.kind = some e) (h : OwnRep w B e u d) (t : GCells ek w B us xs os) : GCells ek w B (u :: us) (.row d :: xs) (u :: os)
inductive GArgs (ek : List (TypeId × RK)) (w : World) (B : Nat → Prop) : List Value → List DA → List Value → Prop where
  | nil : GArgs ek w B [] [] []
  | c {u us x ds o1 o2} (h : GCells ek w B [u] [x] o1) (t : GArgs ek w B us ds o2) : GArgs ek w B (u :: us) (.c x :: ds) (o1 ++ o2)
  | agg {vs us xs ds o1 o2} (h : GCells ek w B vs xs o1) (t : GArgs ek w B us ds o2) : GArgs ek w B (.agg vs.toArray :: us) (.agg xs :: ds) (o1 ++ o2)
def WrRep (ek : List (TypeId × RK)) (w' : World) (B : Nat → Prop) (u : Value) : SC → Prop
  | .sc _ => False
  | .row d => ∃ e, ekOf ek d.kind = some e ∧ OwnRep w' B e u d
def GPost (ek : List (TypeId × RK)) (w0 : World) (B : Nat → Prop) (os : List Value) (sp : Sp) (e : Ending) (w' : World) : Prop :=
  ∃ v, e = .returned v ∧ Chg (fun j => ∃ u ∈ os, u.ownBlock = some j) w0 w' ∧ match sp.mode, sp.res, sp.outs with
    | .take, [.c (.row d)], [] => ∃ e, ekOf ek d.kind = some e ∧ OwnRep w' B e v d ∧ ∀ b, v.ownBlock = some b → (∃ u ∈ os, u.ownBlock = some b) ∨ w0.heap.size ≤ b
    | .write, res, [ds] => (∃ vs, v = tupV vs ∧ All2 (DARep w' fun _ => False) vs res) ∧ All2 (WrRep ek w' B) os ds
    | _, _, _ => False
def Sound (P : Program) (ek : List (TypeId × RK)) (Φ : FuncId → List DA → Option Sp) : Prop :=
  ∀ f args sp, Φ f args = some sp → sp.pre = true → (∃ fn, P.funcs[f]? = some fn ∧ fn.body.isSome = true ∧ (fn.name == "runtime.NumGoroutine") = false) ∧
    (isGive sp.mode = false → ∀ w A vals bs, ArgsRep w A vals args bs → bs.Nodup → (∀ j, A j → j < w.heap.size) → Calls P f vals.toArray w (Post ek w A bs sp)) ∧
    (isGive sp.mode = true → ∀ w B vals os, GArgs ek w B vals args os → (os.filterMap Value.ownBlock).Nodup → (∀ b ∈ os.filterMap Value.ownBlock, ¬ B b) → (∀ j, B j → j < w.heap.size) → Calls P f vals.toArray w (GPost ek w B os sp))

theorem SCRep.mono {w : World} {A B : Nat → Prop} {u : Value} {x : SC} (h : SCRep w A u x) (hp : ∀ j, A j → B j) : SCRep w B u x := by
  cases x with
  | sc v => exact h
  | row d => exact RowRep.chg (Chg.refl (fun _ => False) w) (fun _ _ h => h) hp h
theorem RowRep.sub {w : World} {Pi : Nat → Prop} {A : Option Addr} {cap : Nat} {d : Row} (h : RowRep w Pi (.slice A d.len cap) d) {lo hi : Nat} (h1 : lo ≤ hi) (h2 : hi ≤ d.len) :
    RowRep w Pi (.slice (if cap = lo then A else A.map (·.add (lo * d.wd))) (hi - lo) (cap - lo)) (d.sub lo hi) := by
  have hl := RowLook.sub h.look h1 h2
  obtain ⟨A', cap', e1, e2, e3⟩ := hl
  refine ⟨A', cap', e1, e2, fun hp => ?_⟩
  obtain ⟨ad, ha, hc⟩ := e3 hp
  refine ⟨ad, ha, ?_, hc⟩
  obtain ⟨A0, cap0, e4, e5, e6⟩ := h
  rw [len_sub d h2] at hp
  injection e4 with e4 _ e7
  subst e4; subst e7
  obtain ⟨ad0, rfl, hb, _⟩ := e6 (by omega)
  injection e1 with e1 _ _
  rw [if_neg (by omega), ha] at e1
  simp only [Option.map_some, Option.some.injEq] at e1
  rw [← e1, add_block]
  exact hb

section
variable {P : Program} {cx : Cx} {F : Fr} {σ : St} {a : Act} {w w' : World} {g : Gm}
/-- The blocks that a call may read. -/
def lentA (g : Gm) (l : List Nat) (j : Nat) : Prop := g.G j ∨ ∃ i ∈ l, (g.rv i).ownBlock = some j
theorem Sat.rowRep (h : Sat F σ a w g) {i : Nat} {own fr : Bool} {d : Row} (hi : get σ (.r i) = .row own fr d) {l : List Nat} (hl : own = true → i ∈ l) : RowRep w (lentA g l) (g.rv i) d := by
  obtain ⟨_, _, h3⟩ := h.row i own fr d hi
  cases own with
  | true =>
    obtain ⟨⟨e, he, ho⟩, hb⟩ := h3
    exact ho.row (fun j hj => .inl hj.1) fun j hj => .inr ⟨i, hl rfl, hj⟩
  | false => exact RowRep.chg (Chg.refl (fun _ => False) w) (fun _ _ h => h) (fun j hj => .inl hj.1) h3
theorem cellSC_ok (h : Sat F σ a w g) {c : Cell} {u : Value} (hu : CellRep g F.base w u c) {x : SC} {l : List Nat} (hr : (cellSC c).run (get σ) = some (x, l)) :
    (∀ i ∈ l, ∃ fr d, get σ (.r i) = .row true fr d) ∧ ∀ L, (∀ i ∈ l, i ∈ L) → SCRep w (lentA g L) u x := by
  unfold cellSC at hr
  split at hr
  · have := run_ret hr; cases this
    exact ⟨fun i hi => (by cases hi), fun L _ => hu⟩
  · have := run_ret hr; cases this
    exact ⟨fun i hi => (by cases hi), fun L _ => RowRep.chg (Chg.refl (fun _ => False) w) (fun _ _ h => h) (fun j hj => .inl hj.1) hu⟩
  · rename_i i
    have hr' := run_ask hr
    split at hr'
    · rename_i own fr d hd
      obtain ⟨_, rfl⟩ := hu
      split at hr'
      · have := run_ret hr'; cases this
        exact ⟨fun i' hi => (by simp only [List.mem_singleton] at hi; subst hi; exact ⟨fr, d, hd⟩), fun L hL => h.rowRep hd fun _ => hL i (by simp)⟩
      · have := run_ret hr'; cases this
        exact ⟨fun i hi => (by cases hi), fun L _ => h.rowRep hd fun e => by cases e⟩
    · cases hr'
theorem cellsSC_ok (h : Sat F σ a w g) : ∀ {cs : List Cell} {us : List Value} (_ : All2 (CellRep g F.base w) us cs) {xs : List SC} {l : List Nat} (_ : (cellsSC cs).run (get σ) = some (xs, l)),
    (∀ i ∈ l, ∃ fr d, get σ (.r i) = .row true fr d) ∧ ∀ L, (∀ i ∈ l, i ∈ L) → All2 (SCRep w (lentA g L)) us xs
  | [], _, .nil, xs, l, hr => by
    have := run_ret hr; cases this
    exact ⟨fun i hi => (by cases hi), fun L _ => .nil⟩
  | c :: cs, _, .cons hu hus, xs, l, hr => by
    obtain ⟨⟨x, l1⟩, h1, hr⟩ := run_bind_some hr
    obtain ⟨⟨ys, l2⟩, h2, hr⟩ := run_bind_some hr
    have := run_ret hr; cases this
    obtain ⟨a1, b1⟩ := cellSC_ok h hu h1
    obtain ⟨a2, b2⟩ := cellsSC_ok h hus h2
    exact ⟨fun i hi => (List.mem_append.1 hi).elim (a1 i) (a2 i), fun L hL => .cons (b1 L fun i hi => hL i (List.mem_append_left _ hi)) (b2 L fun i hi => hL i (List.mem_append_right _ hi))⟩
theorem argsR_ok (h : Sat F σ a w g) : ∀ (l : List Operand) (ds : List DA) (ls bs : List Nat), (argsR l).run (get σ) = some (ds, ls, bs) →
    (∀ i ∈ ls, ∃ fr d, get σ (.r i) = .row true fr d) ∧ (∀ b ∈ bs, ∃ cs, get σ (.b b) = .box cs) ∧ ∀ L, (∀ i ∈ ls, i ∈ L) → (∀ i ∈ L, ∃ fr d, get σ (.r i) = .row true fr d) → ArgsRep w (lentA g L) (l.map a.eval) ds (bs.map g.bb)
  | [], ds, ls, bs, hr => by
    have := run_ret hr; cases this
    exact ⟨fun i hi => (by cases hi), fun i hi => (by cases hi), fun L _ _ => .nil⟩
  | x :: l, ds, ls, bs, hr => by
    obtain ⟨v, hv, hr⟩ := run_bind_some hr
    obtain ⟨⟨d1, l1, b1⟩, h1, hr⟩ := run_bind_some hr
    obtain ⟨⟨d2, l2, b2⟩, h2, hr⟩ := run_bind_some hr
    have := run_ret hr; cases this
    obtain ⟨p1, p2, p3⟩ := argsR_ok h l _ _ _ h2
    have hv' := opv_ok h hv
    have key : ∀ {q1 : List Nat} {qb : List Nat}, l1 = q1 → b1 = qb → (∀ i ∈ q1, ∃ fr d, get σ (.r i) = .row true fr d) → (∀ b ∈ qb, ∃ cs, get σ (.b b) = .box cs) →
        (∀ L, (∀ i ∈ q1, i ∈ L) → (∀ i ∈ L, ∃ fr d, get σ (.r i) = .row true fr d) → ∀ us ds' bs', ArgsRep w (lentA g L) us ds' bs' → ArgsRep w (lentA g L) (a.eval x :: us) (d1 :: ds') (qb.map g.bb ++ bs')) →
        (∀ i ∈ l1 ++ l2, ∃ fr d, get σ (.r i) = .row true fr d) ∧ (∀ b ∈ b1 ++ b2, ∃ cs, get σ (.b b) = .box cs) ∧ ∀ L, (∀ i ∈ l1 ++ l2, i ∈ L) → (∀ i ∈ L, ∃ fr d, get σ (.r i) = .row true fr d) → ArgsRep w (lentA g L) ((x :: l).map a.eval) (d1 :: d2) ((b1 ++ b2).map g.bb) := by
      intro q1 qb e1 e2 k1 k2 k3
      subst e1 e2
      refine ⟨fun i hi => (List.mem_append.1 hi).elim (k1 i) (p1 i), fun b hb => (List.mem_append.1 hb).elim (k2 b) (p2 b), fun L hL hL2 => ?_⟩
      rw [List.map_cons, List.map_append]
      exact k3 L (fun i hi => hL i (List.mem_append_left _ hi)) hL2 _ _ _ (p3 L (fun i hi => hL i (List.mem_append_right _ hi)) hL2)
    unfold argR at h1
    split at h1
    · obtain ⟨⟨x1, x2⟩, hx, h1⟩ := run_bind_some h1
      have := run_ret h1; cases this
      obtain ⟨a1, a2⟩ := cellSC_ok h hv' hx
      exact key rfl rfl a1 (fun b hb => (by cases hb)) fun L hL _ us ds' bs' ht => .c (a2 L hL) ht
    · obtain ⟨⟨x1, x2⟩, hx, h1⟩ := run_bind_some h1
      have := run_ret h1; cases this
      obtain ⟨us0, hu0, hall⟩ := hv'
      obtain ⟨a1, a2⟩ := cellsSC_ok h hall hx
      exact key rfl rfl a1 (fun b hb => (by cases hb)) fun L hL _ us ds' bs' ht => by rw [hu0]; exact .agg (a2 L hL) ht
    · rename_i i lo hi
      have h1' := run_ask h1
      split at h1'
      · rename_i own fr d hd
        obtain ⟨hx1, hx2, hx3, A, len, cap, hx4, hx5⟩ := hv'
        obtain ⟨_, ⟨hw, hl⟩, _⟩ := h.row i _ _ _ hd
        have hrow : ∀ L, (own = true → i ∈ L) → SCRep w (lentA g L) (a.eval x) (.row (d.sub lo hi)) := fun L hL => by
          have := h.rowRep hd hL
          rw [hx4] at this
          have e : len = d.len := by obtain ⟨_, _, e, _⟩ := this; injection e with _ e _
          subst e
          rw [hx5, hw]
          exact RowRep.sub this hx2 (by rw [← hl]; exact hx3)
        split at h1'
        · have := run_ret h1'; cases this
          exact key rfl rfl (fun i' hi' => by simp only [List.mem_singleton] at hi'; subst hi'; exact ⟨fr, d, hd⟩) (fun b hb => (by cases hb)) fun L hL _ us ds' bs' ht => .c (hrow L fun _ => hL i (by simp)) ht
        · have := run_ret h1'; cases this
          exact key rfl rfl (fun i' hi' => (by cases hi')) (fun b hb => (by cases hb)) fun L hL _ us ds' bs' ht => .c (hrow L fun e => by cases e) ht
      · cases h1'
    · rename_i b
      have h1' := run_ask h1
      split at h1'
      · rename_i cs hb
        obtain ⟨⟨x1, x2⟩, hx, h1⟩ := run_bind_some h1'
        have := run_ret h1; cases this
        obtain ⟨_, us0, ty, hg, hall, hng, _⟩ := h.box b cs hb
        obtain ⟨a1, a2⟩ := cellsSC_ok h hall hx
        refine key rfl rfl a1 (fun b' hb' => by simp only [List.mem_singleton] at hb'; subst hb'; exact ⟨cs, hb⟩) fun L hL hL2 us ds' bs' ht => ?_
        rw [hv'.2]
        exact .bx hg (a2 L hL) (fun hA => hA.elim hng fun ⟨i, hi, e⟩ => by obtain ⟨fr, d, hd⟩ := hL2 i hi; exact h.sepRB i b fr d cs hd hb e) ht
      · cases h1'
    · cases h1
theorem freezeW_ok : ∀ {l : List Nat} {ws : List (Loc × Ct)} {σ : St} {g : Gm} (_ : Sat F σ a w g) (G : Loc → Ct) (_ : ∀ i ∈ l, ∃ o fr d, get σ (.r i) = .row o fr d ∧ G (.r i) = .row true fr d) (_ : ∀ i ∈ l, (∃ fr d, get σ (.r i) = .row false fr d) → ∀ j, (g.rv i).ownBlock = some j → g.G j)
    (_ : (freezeW l).run G = some ws), ∃ g', Sat F (push ws σ) a w g' ∧ g.le g' ∧ g'.rv = g.rv ∧ (∀ i ∈ l, ∀ j, (g.rv i).ownBlock = some j → g'.G j) ∧ ∀ p ∈ ws, ∃ i fr d, p = (.r i, .row false fr d)
  | [], ws, σ, g, h, G, _, _, hr => by
    have := run_ret hr; cases this
    exact ⟨g, h, g.le_refl, rfl, fun i hi => (by cases hi), fun p hp => (by cases hp)⟩
  | i :: l, ws, σ, g, h, G, hl, hz, hr => by
    have hr' := run_ask hr
    split at hr'
    · rename_i own fr d hd
      obtain ⟨ws', hw, hr2⟩ := run_bind_some hr'
      have := run_ret hr2; cases this
      obtain ⟨o, fr', d', hi1, hi2⟩ := hl i (by simp)
      rw [hd] at hi2
      cases hi2
      have hstep : ∃ g1, Sat F ((.r i, .row false fr d) :: σ) a w g1 ∧ g.le g1 ∧ g1.rv = g.rv ∧ ∀ j, (g.rv i).ownBlock = some j → g1.G j := by
        cases o with
        | true => exact h.freeze hi1
        | false =>
          refine ⟨g, h.ext fun l => ?_, g.le_refl, rfl, hz i (by simp) ⟨fr, d, hi1⟩⟩
          by_cases e : l = .r i
          · subst e; rw [get_same, hi1]
          · exact get_other e _ _
      obtain ⟨g1, e1, e2, e3, e4⟩ := hstep
      obtain ⟨g2, f1, f2, f3, f4, f5⟩ := freezeW_ok e1 G (l := l) (fun i' hi' => by
        obtain ⟨o', fr', d', h1, h2⟩ := hl i' (List.mem_cons_of_mem _ hi')
        by_cases e : i' = i
        · subst e
          rw [hd] at h2
          cases h2
          exact ⟨false, fr, d, get_same _ _ _, hd⟩
        · exact ⟨o', fr', d', by rw [get_other (Loc.r_ne e)]; exact h1, h2⟩) (fun i' hi' hex j hj => by
        rw [e3] at hj
        by_cases e : i' = i
        · subst e; exact e4 j hj
        · obtain ⟨fr', d', h1⟩ := hex
          rw [get_other (Loc.r_ne e)] at h1
          exact e2.G j (hz i' (List.mem_cons_of_mem _ hi') ⟨fr', d', h1⟩ j hj)) hw
      refine ⟨g2, f1, e2.le_trans f2, f3.trans e3, fun i' hi' j hj => ?_, fun p hp => ?_⟩
      · rcases List.mem_cons.1 hi' with rfl | hi'
        · exact f2.G j (e4 j hj)
        · exact f4 i' hi' j (by rw [e3]; exact hj)
      · rcases List.mem_cons.1 hp with rfl | hp
        · exact ⟨i, fr, d, rfl⟩
        · exact f5 p hp
    · cases hr'
theorem get_push_rows {ws : List (Loc × Ct)} (hf : ∀ p ∈ ws, ∃ i fr d, p = (.r i, .row false fr d)) {l : Loc} (hl : ∀ i, l ≠ .r i) (σ : St) : get (push ws σ) l = get σ l :=
  get_push_other (fun p hp e => by obtain ⟨i, fr, d, rfl⟩ := hf p hp; exact hl i e.symm) σ
theorem sc_cell {A : Nat → Prop} {fr : Bool} {u : Value} {x : SC} (hA : ∀ j, A j → PG g F.base fr j) (h : SCRep w A u x) : CellRep g F.base w u (scCell fr x) := by
  cases x with
  | sc v => exact h
  | row d => exact RowRep.chg (Chg.refl (fun _ => False) w) (fun _ _ h => h) hA h
theorem sc_cells {A : Nat → Prop} {fr : Bool} {us : List Value} {xs : List SC} (hA : ∀ j, A j → PG g F.base fr j) (h : All2 (SCRep w A) us xs) : All2 (CellRep g F.base w) us (xs.map (scCell fr)) := (h.imp fun _ _ h' => sc_cell hA h').map_right
theorem resV1s_ok {A : Nat → Prop} {fr : Bool} (hA : ∀ j, A j → PG g F.base fr j) {G : Loc → Ct} : ∀ {ds : List DA} {vs : List Value} {xs : List V1} (_ : All2 (DARep w A) vs ds) (_ : (resV1s fr ds).run G = some xs), All2 (V1Rep g F.base w) vs xs
  | [], _, xs, .nil, hr => by
    obtain rfl := run_ret hr
    exact .nil
  | d :: ds, _, xs, .cons hd ht, hr => by
    obtain ⟨x, h1, hr⟩ := run_bind_some hr
    obtain ⟨ys, h2, hr⟩ := run_bind_some hr
    obtain rfl := run_ret hr
    refine .cons ?_ (resV1s_ok hA ht h2)
    cases d with
    | c y => obtain rfl := run_ret h1; exact sc_cell hA hd
    | agg ys =>
      obtain rfl := run_ret h1
      obtain ⟨us, rfl, hall⟩ := hd
      exact ⟨us, rfl, sc_cells hA hall⟩
    | bx ys => cases h1
theorem resN_ok {A : Nat → Prop} {fr : Bool} (hA : ∀ j, A j → PG g F.base fr j) {G : Loc → Ct} {ds : List DA} {vs : List Value} (hall : All2 (DARep w A) vs ds) {x : AV} {ws : List (Loc × Ct)} (hr : (resN fr ds).run G = some (x, ws)) : ws = [] ∧ AVRep g F.base w (tupV vs) x := by
  obtain ⟨p, hp, hr⟩ := run_bind_some hr
  have hv := resV1s_ok hA hall hp
  split at hr
  · have := run_ret hr; cases this
    cases hv with
    | cons h1 t1 => cases t1; exact ⟨rfl, h1⟩
  · rename_i vs' hne
    have := run_ret hr; cases this
    refine ⟨rfl, ?_⟩
    have : tupV vs = .tuple vs.toArray := by
      cases vs with
      | nil => rfl
      | cons v vs => cases vs with
        | nil => cases hv with
          | cons h1 t1 => cases t1; exact absurd rfl (hne _)
        | cons _ _ => rfl
    rw [this]
    exact ⟨vs, rfl, hv⟩
theorem Priv.cons {i : Nat} {fr : Bool} {d : Row} {v : Value} {b : Nat} (hp : Priv F σ g b) (hb : v.ownBlock ≠ some b) : Priv F ((.r i, .row true fr d) :: σ) (g.setR i v d) b := by
  refine ⟨hp.ng, fun j f1 d1 hj => ?_, fun c cs hc => hp.box c cs (by rw [get_other (by simp)] at hc; exact hc), hp.base⟩
  by_cases e : j = i
  · subst e
    rw [show (g.setR j v d).rv j = v from if_pos rfl]
    exact hb
  · rw [get_other (Loc.r_ne e)] at hj
    rw [show (g.setR i v d).rv j = g.rv j from if_neg e]
    exact hp.row j f1 d1 hj
structure MixOk (F : Fr) (τ τ' : St) (a : Act) (w : World) (g g' : Gm) (id id' : Nat) (bl : List Nat) : Prop where
  sat : Sat F τ' a w g'
  le : g.le g'
  id : id ≤ id'
  far : ∀ i, id' ≤ i → get τ' (.r i) = get τ (.r i)
  priv : ∀ b, Priv F τ g b → b ∉ bl → Priv F τ' g' b
theorem mixCs_ok {ek : List (TypeId × RK)} (hek : F.ek = ek) {A G' : Nat → Prop} {G : Loc → Ct} {us : List Value} {xs : List SC} {os os' : List RF} {bl : List Nat} (hm : SMix ek w A G' us xs os os' bl) :
    ∀ {id : Nat} {p : List Cell × List (Loc × Ct) × List RF × Nat} {τ : St} {g : Gm}, (mixCs xs os id).run G = some p → Sat F τ a w g → (∀ i, id ≤ i → G (.r i) = .no → get τ (.r i) = .no) → (∀ j, G' j → PG g F.base true j) → (hasAny os = true → ∀ j, A j → g.G j) →
    (∀ b ∈ bl, Priv F τ g b ∧ F.base ≤ b) → bl.Nodup → ∃ g', MixOk F τ (push p.2.1 τ) a w g g' id p.2.2.2 bl ∧ All2 (CellRep g' F.base w) us p.1 ∧ p.2.2.1 = os' := by
  induction hm with
  | nil =>
    intro id p τ g hr hs _ _ _ _ _
    have := run_ret hr; subst this
    exact ⟨g, ⟨hs, g.le_refl, Nat.le_refl _, fun _ _ => rfl, fun b hb _ => hb⟩, .nil, rfl⟩
  | sc _ ih =>
    intro id p τ g hr hs hno hG hA hb hnd
    obtain ⟨q, hq, hr⟩ := run_bind_some hr
    have := run_ret hr; subst this
    obtain ⟨g', h1, h2, h3⟩ := ih hq hs hno hG hA hb hnd
    exact ⟨g', h1, .cons rfl h2, h3⟩
  | ro h _ ih =>
    intro id p τ g hr hs hno hG hA hb hnd
    obtain ⟨q, hq, hr⟩ := run_bind_some hr
    have := run_ret hr; subst this
    obtain ⟨g', h1, h2, h3⟩ := ih hq hs hno hG hA hb hnd
    exact ⟨g', h1, .cons (RowRep.chg (Chg.refl (fun _ => False) w) (fun _ _ h => h) (fun j hj => (hG j hj).mono h1.le.G) h) h2, h3⟩
  | any h _ ih =>
    intro id p τ g hr hs hno hG hA hb hnd
    obtain ⟨q, hq, hr⟩ := run_bind_some hr
    have := run_ret hr; subst this
    obtain ⟨g', h1, h2, h3⟩ := ih hq hs hno hG (fun _ => hA rfl) hb hnd
    exact ⟨g', h1, .cons (RowRep.chg (Chg.refl (fun _ => False) w) (fun _ _ h => h) (fun j hj => ⟨h1.le.G j (hj.elim (hA rfl j) fun hj => (hG j hj).1), fun e => by cases e⟩) h) h2, h3⟩
  | own he h _ ih =>
    rename_i u us d xs os os' bl e _
    intro id p τ g hr hs hno hG hA hb hnd
    obtain ⟨hid, hr⟩ := newLoc_ok hr
    obtain ⟨q, hq, hr⟩ := run_bind_some hr
    have := run_ret hr; subst this
    rw [List.nodup_append] at hnd
    have hub : ∀ b, u.ownBlock = some b → b ∈ u.ownBlock.toList := fun b hb' => by rw [hb']; simp
    have hs1 := hs.newRow (id := id) (hno id (Nat.le_refl _) hid) (fr := true) (d := d) (e := e) (v := u) (by rw [hek]; exact he) (h.chg (Chg.refl (fun _ => False) w) (fun _ _ h => h) hG fun _ _ h => h) fun b hb' => ⟨(hb b (List.mem_append_left _ (hub b hb'))).1, fun _ => (hb b (List.mem_append_left _ (hub b hb'))).2⟩
    have hnd0 : ¬ g.dr id := fun hd => (hs.dr id hd).1 (hno id (Nat.le_refl _) hid)
    have hle := g.setR_le hnd0 u d
    obtain ⟨g', h1, h2, h3⟩ := ih hq hs1 (fun i hi hn => by rw [get_other (Loc.r_ne (by omega))]; exact hno i (by omega) hn) (fun j hj => hG j hj) (fun ha => hA ha) (fun b hb' => ⟨(hb b (List.mem_append_right _ hb')).1.cons fun e => hnd.2.2 b (hub b e) b hb' rfl, (hb b (List.mem_append_right _ hb')).2⟩) hnd.2.1
    refine ⟨g', ⟨h1.sat, hle.le_trans h1.le, Nat.le_trans (Nat.le_succ id) h1.id, fun i hi => ?_, fun b hp hn => ?_⟩, .cons ⟨h1.le.dr id (.inr rfl), ?_⟩ h2, h3⟩
    · have hlt : id + 1 ≤ i := Nat.le_trans h1.id hi
      exact (h1.far i hi).trans (get_other (Loc.r_ne (by omega)) _ _)
    · exact h1.priv b (hp.cons fun e => hn (List.mem_append_left _ (hub b e))) fun hb' => hn (List.mem_append_right _ hb')
    · rw [h1.le.rv id (.inr rfl)]; exact (if_pos rfl).symm
theorem mixVs_ok {ek : List (TypeId × RK)} (hek : F.ek = ek) {A G' : Nat → Prop} {G : Loc → Ct} {us : List Value} {xs : List DA} {os : List RF} {bl : List Nat} (hm : DMix ek w A G' us xs os bl) :
    ∀ {id : Nat} {p : List V1 × List (Loc × Ct)} {τ : St} {g : Gm}, (mixVs xs os id).run G = some p → Sat F τ a w g → (∀ i, id ≤ i → G (.r i) = .no → get τ (.r i) = .no) → (∀ j, G' j → PG g F.base true j) → (hasAny os = true → ∀ j, A j → g.G j) →
    (∀ b ∈ bl, Priv F τ g b ∧ F.base ≤ b) → bl.Nodup → ∃ g', Sat F (push p.2 τ) a w g' ∧ g.le g' ∧ All2 (V1Rep g' F.base w) us p.1 := by
  induction hm with
  | nil =>
    intro id p τ g hr hs _ _ _ _ _
    have := run_ret hr; subst this
    exact ⟨g, hs, g.le_refl, .nil⟩
  | c h _ ih =>
    intro id p τ g hr hs hno hG hA hb hnd
    obtain ⟨q, hq, hr⟩ := run_bind_some hr
    rw [List.nodup_append] at hnd
    obtain ⟨g1, h1, h2, h3⟩ := mixCs_ok hek h hq hs hno hG hA (fun b hb' => hb b (List.mem_append_left _ hb')) hnd.1
    split at hr
    · rename_i c hc
      obtain ⟨q2, hq2, hr⟩ := run_bind_some hr
      have := run_ret hr; subst this
      rw [h3] at hq2
      obtain ⟨g2, e1, e2, e3⟩ := ih hq2 h1.sat (fun i hi hn => by rw [h1.far i hi]; exact hno i (Nat.le_trans h1.id hi) hn) (fun j hj => (hG j hj).mono h1.le.G) (fun ha j hj => h1.le.G j (hA (h.hasA ha) j hj)) (fun b hb' => ⟨h1.priv b (hb b (List.mem_append_right _ hb')).1 fun hb2 => hnd.2.2 b hb2 b hb' rfl, (hb b (List.mem_append_right _ hb')).2⟩) hnd.2.1
      refine ⟨g2, by rw [push_append]; exact e1, h1.le.le_trans e2, .cons ?_ e3⟩
      rw [hc] at h2
      cases h2 with
      | cons h4 _ => exact h4.le e2
    · cases hr
  | agg h _ ih =>
    intro id p τ g hr hs hno hG hA hb hnd
    obtain ⟨q, hq, hr⟩ := run_bind_some hr
    rw [List.nodup_append] at hnd
    obtain ⟨g1, h1, h2, h3⟩ := mixCs_ok hek h hq hs hno hG hA (fun b hb' => hb b (List.mem_append_left _ hb')) hnd.1
    obtain ⟨q2, hq2, hr⟩ := run_bind_some hr
    have := run_ret hr; subst this
    rw [h3] at hq2
    obtain ⟨g2, e1, e2, e3⟩ := ih hq2 h1.sat (fun i hi hn => by rw [h1.far i hi]; exact hno i (Nat.le_trans h1.id hi) hn) (fun j hj => (hG j hj).mono h1.le.G) (fun ha j hj => h1.le.G j (hA (h.hasA ha) j hj)) (fun b hb' => ⟨h1.priv b (hb b (List.mem_append_right _ hb')).1 fun hb2 => hnd.2.2 b hb2 b hb' rfl, (hb b (List.mem_append_right _ hb')).2⟩) hnd.2.1
    exact ⟨g2, by rw [push_append]; exact e1, h1.le.le_trans e2, .cons ⟨_, rfl, h2.imp fun _ _ h' => h'.le e2⟩ e3⟩
theorem mixR_ok {id : Nat} {xs : List DA} {os : List RF} {G : Loc → Ct} {rv : AV} {ws : List (Loc × Ct)} (h : (resR (.mix os) id xs).run G = some (rv, ws)) :
    ∃ vs, (mixVs xs os id).run G = some (vs, ws) ∧ ∀ (w : World) (g : Gm) us, All2 (V1Rep g F.base w) us vs → AVRep g F.base w (tupV us) rv := by
  obtain ⟨⟨vs, ws'⟩, hp, h⟩ := run_bind_some h
  simp only at h
  split at h
  · have := run_ret h; cases this
    refine ⟨_, hp, fun w g us hu => ?_⟩
    cases hu with
    | cons h1 t1 => cases t1; exact h1
  · have := run_ret h; cases this
    rename_i hne _
    refine ⟨_, hp, fun w g us hu => ?_⟩
    have : tupV us = .tuple us.toArray := by
      cases us with
      | nil => rfl
      | cons v us => cases us with
        | nil => cases hu with
          | cons h1 t1 => cases t1; exact absurd rfl (hne _)
        | cons _ _ => rfl
    rw [this]
    exact ⟨us, rfl, hu⟩
/-! rows handed over -/
theorem giveC_ok (hek : F.ek = cx.ek) (h : Sat F σ a w g) {c : Cell} {u : Value} (hu : CellRep g F.base w u c) {x : SC} {l : List Nat} (hr : (cellSC c).run (get σ) = some (x, l)) {is : List Nat} {fr : Bool} (hg : (giveC c).run (get σ) = some (is, fr)) :
    (∀ i ∈ is, ∃ f d, get σ (.r i) = .row true f d ∧ (fr = true → f = true)) ∧ ∀ (B : Nat → Prop), (∀ j, PG g F.base fr j → B j) → ∀ us xs os, GCells cx.ek w B us xs os → GCells cx.ek w B (u :: us) (x :: xs) (is.map g.rv ++ os) := by
  unfold giveC at hg
  split at hg
  · have := run_ret hg; cases this
    have := run_ret hr; cases this
    exact ⟨fun i hi => (by cases hi), fun B _ us xs os ht => by cases hu; exact .sc ht⟩
  · rename_i i
    have hg' := run_ask hg
    split at hg'
    · rename_i f d hd
      have := run_ret hg'; cases this
      have hr' := run_ask hr
      rw [hd] at hr'
      have := run_ret hr'; cases this
      obtain ⟨_, rfl⟩ := hu
      obtain ⟨_, _, ⟨e, he, ho⟩, _⟩ := h.row i _ _ _ hd
      exact ⟨fun i' hi => (by simp only [List.mem_singleton] at hi; subst hi; exact ⟨_, d, hd, id⟩), fun B hB us xs os ht => .own (by rw [← hek]; exact he) (ho.chg (Chg.refl (fun _ => False) w) (fun _ _ h => h) hB fun _ _ h => h) ht⟩
    · cases hg'
  · cases hg
theorem PG.all {g : Gm} {base : Nat} {a b : Bool} {B : Nat → Prop} (h : ∀ j, PG g base (a && b) j → B j) : (∀ j, PG g base a j → B j) ∧ ∀ j, PG g base b j → B j :=
  ⟨fun j hj => h j ⟨hj.1, fun e => hj.2 (by simp only [Bool.and_eq_true] at e; exact e.1)⟩, fun j hj => h j ⟨hj.1, fun e => hj.2 (by simp only [Bool.and_eq_true] at e; exact e.2)⟩⟩
theorem giveCs_ok (hek : F.ek = cx.ek) (h : Sat F σ a w g) : ∀ {cs : List Cell} {us : List Value} (_ : All2 (CellRep g F.base w) us cs) {xs : List SC} {l : List Nat} (_ : (cellsSC cs).run (get σ) = some (xs, l)) {is : List Nat} {fr : Bool} (_ : (giveCs cs).run (get σ) = some (is, fr)),
    (∀ i ∈ is, ∃ f d, get σ (.r i) = .row true f d ∧ (fr = true → f = true)) ∧ ∀ (B : Nat → Prop), (∀ j, PG g F.base fr j → B j) → GCells cx.ek w B us xs (is.map g.rv)
  | [], _, .nil, xs, l, hr, is, fr, hg => by
    have := run_ret hr; cases this
    have := run_ret hg; cases this
    exact ⟨fun i hi => (by cases hi), fun B _ => .nil⟩
  | c :: cs, _, .cons hu hus, xs, l, hr, is, fr, hg => by
    obtain ⟨⟨x, l1⟩, h1, hr⟩ := run_bind_some hr
    obtain ⟨⟨ys, l2⟩, h2, hr⟩ := run_bind_some hr
    have := run_ret hr; cases this
    obtain ⟨⟨i1, f1⟩, g1, hg⟩ := run_bind_some hg
    obtain ⟨⟨i2, f2⟩, g2, hg⟩ := run_bind_some hg
    have := run_ret hg; cases this
    obtain ⟨a1, b1⟩ := giveC_ok hek h hu h1 g1
    obtain ⟨a2, b2⟩ := giveCs_ok hek h hus h2 g2
    refine ⟨fun i hi => ?_, fun B hB => ?_⟩
    · rcases List.mem_append.1 hi with hi | hi
      · obtain ⟨f, d, q1, q2⟩ := a1 i hi
        exact ⟨f, d, q1, fun e => q2 (by simp only [Bool.and_eq_true] at e; exact e.1)⟩
      · obtain ⟨f, d, q1, q2⟩ := a2 i hi
        exact ⟨f, d, q1, fun e => q2 (by simp only [Bool.and_eq_true] at e; exact e.2)⟩
    · rw [List.map_append]
      exact b1 B (PG.all hB).1 _ _ _ (b2 B (PG.all hB).2)
theorem givesR_ok (hek : F.ek = cx.ek) (h : Sat F σ a w g) : ∀ (l : List Operand) (ds : List DA) (ls bs : List Nat) (_ : (argsR l).run (get σ) = some (ds, ls, bs)) (is : List Nat) (fr : Bool) (_ : (givesR l).run (get σ) = some (is, fr)),
    (∀ i ∈ is, ∃ f d, get σ (.r i) = .row true f d ∧ (fr = true → f = true)) ∧ ∀ (B : Nat → Prop), (∀ j, PG g F.base fr j → B j) → GArgs cx.ek w B (l.map a.eval) ds (is.map g.rv)
  | [], ds, ls, bs, hr, is, fr, hg => by
    have := run_ret hr; cases this
    have := run_ret hg; cases this
    exact ⟨fun i hi => (by cases hi), fun B _ => .nil⟩
  | x :: l, ds, ls, bs, hr, is, fr, hg => by
    obtain ⟨v, hv, hr⟩ := run_bind_some hr
    obtain ⟨⟨d1, l1, b1⟩, h1, hr⟩ := run_bind_some hr
    obtain ⟨⟨d2, l2, b2⟩, h2, hr⟩ := run_bind_some hr
    have := run_ret hr; cases this
    obtain ⟨v', hv2, hg⟩ := run_bind_some hg
    obtain rfl : v = v' := Option.some.inj (hv.symm.trans hv2)
    obtain ⟨⟨i1, f1⟩, g1, hg⟩ := run_bind_some hg
    obtain ⟨⟨i2, f2⟩, g2, hg⟩ := run_bind_some hg
    have := run_ret hg; cases this
    have hv' := opv_ok h hv
    obtain ⟨a2, b2'⟩ := givesR_ok hek h l _ _ _ h2 _ _ g2
    have fin : (∀ i ∈ i1, ∃ f d, get σ (.r i) = .row true f d ∧ (f1 = true → f = true)) → (∀ (B : Nat → Prop), (∀ j, PG g F.base f1 j → B j) → ∀ us ds' os, GArgs cx.ek w B us ds' os → GArgs cx.ek w B (a.eval x :: us) (d1 :: ds') (i1.map g.rv ++ os)) →
        (∀ i ∈ i1 ++ i2, ∃ f d, get σ (.r i) = .row true f d ∧ ((f1 && f2) = true → f = true)) ∧ ∀ (B : Nat → Prop), (∀ j, PG g F.base (f1 && f2) j → B j) → GArgs cx.ek w B ((x :: l).map a.eval) (d1 :: d2) ((i1 ++ i2).map g.rv) := fun k1 k2 => by
      refine ⟨fun i hi => ?_, fun B hB => ?_⟩
      · rcases List.mem_append.1 hi with hi | hi
        · obtain ⟨f, d, q1, q2⟩ := k1 i hi
          exact ⟨f, d, q1, fun e => q2 (by simp only [Bool.and_eq_true] at e; exact e.1)⟩
        · obtain ⟨f, d, q1, q2⟩ := a2 i hi
          exact ⟨f, d, q1, fun e => q2 (by simp only [Bool.and_eq_true] at e; exact e.2)⟩
      · rw [List.map_append, List.map_cons]
        exact k2 B (PG.all hB).1 _ _ _ (b2' B (PG.all hB).2)
    unfold giveA at g1
    split at g1
    · obtain ⟨⟨x1, x2⟩, hx, h1⟩ := run_bind_some h1
      have := run_ret h1; cases this
      obtain ⟨p1, p2⟩ := giveC_ok hek h hv' hx g1
      exact fin p1 fun B hB us ds' os ht => .c (by have := p2 B hB [] [] [] .nil; rwa [List.append_nil] at this) ht
    · obtain ⟨⟨x1, x2⟩, hx, h1⟩ := run_bind_some h1
      have := run_ret h1; cases this
      obtain ⟨us0, hu0, hall⟩ := hv'
      obtain ⟨p1, p2⟩ := giveCs_ok hek h hall hx g1
      exact fin p1 fun B hB us ds' os ht => by rw [hu0]; exact .agg (p2 B hB) ht
    · cases g1
theorem nodupB_nd : ∀ (l : List Nat), nodupB l = true → l.Nodup
  | [], _ => .nil
  | n :: l, h => by
    simp only [nodupB, Bool.and_eq_true, Bool.not_eq_true', List.any_eq_false] at h
    exact List.nodup_cons.2 ⟨fun hm => h.1 n hm (Nat.beq_refl n), nodupB_nd l h.2⟩
theorem killW_cons (i : Nat) (is : List Nat) : killW (i :: is) = (.r i, .dead) :: killW is := rfl
theorem killAll_ok : ∀ {is : List Nat} {σ : St} (_ : Sat F σ a w g) (_ : is.Nodup) (_ : ∀ i ∈ is, ∃ f d, get σ (.r i) = .row true f d),
    Sat F (push (killW is) σ) a w g ∧ (∀ i ∈ is, ∀ b, (g.rv i).ownBlock = some b → Priv F (push (killW is) σ) g b) ∧ (∀ b, Priv F σ g b → Priv F (push (killW is) σ) g b) ∧ ∀ l, (∀ i ∈ is, l ≠ .r i) → get (push (killW is) σ) l = get σ l
  | [], σ, h, _, _ => ⟨h, fun i hi => (by cases hi), fun _ h => h, fun _ _ => rfl⟩
  | i :: is, σ, h, hn, hd => by
    obtain ⟨f, d, hi⟩ := hd i List.mem_cons_self
    obtain ⟨k1, k2⟩ := h.kill hi
    have hne : ∀ j ∈ is, j ≠ i := fun j hj e => (List.nodup_cons.1 hn).1 (e ▸ hj)
    obtain ⟨e1, e2, e3, e4⟩ := killAll_ok (is := is) k1 (List.nodup_cons.1 hn).2 fun j hj => by
      obtain ⟨f', d', hj'⟩ := hd j (List.mem_cons_of_mem _ hj)
      exact ⟨f', d', by rw [get_other (Loc.r_ne (hne j hj))]; exact hj'⟩
    rw [killW_cons, push_cons]
    refine ⟨e1, fun j hj b hb => ?_, fun b hp => e3 b (hp.dead i), fun l hl => by rw [e4 l fun j hj => hl j (List.mem_cons_of_mem _ hj), get_other (hl i List.mem_cons_self)]⟩
    rcases List.mem_cons.1 hj with rfl | hj
    · exact e3 b (k2 b hb)
    · exact e2 j hj b hb
theorem kind_wd {d d' : Row} (h : d.kind = d'.kind) : d.wd = d'.wd := by rw [← kwd_wd, ← kwd_wd, h]
/-- Rows that stand again, with other contents. -/
theorem writeW_ok {G : Loc → Ct} {fr : Bool} {w' : World} : ∀ {is : List Nat} {ds : List SC} {ws : List (Loc × Ct)} (_ : (writeW fr is ds).run G = some ws) {τ : St} (_ : Sat F τ a w' g) (_ : is.Nodup)
    (_ : ∀ i ∈ is, g.dr i ∧ (∀ f d, G (.r i) = .row true f d → g.wd i = d.wd ∧ g.ln i = d.len) ∧ ∀ b, (g.rv i).ownBlock = some b → Priv F τ g b ∧ (fr = true → F.base ≤ b)) (_ : ∀ i ∈ is, ∀ j ∈ is, i ≠ j → ∀ b, (g.rv i).ownBlock = some b → (g.rv j).ownBlock ≠ some b)
    (_ : All2 (WrRep F.ek w' (PG g F.base fr)) (is.map g.rv) ds), Sat F (push ws τ) a w' g
  | [], [], ws, hr, τ, h, _, _, _, _ => by have := run_ret hr; cases this; exact h
  | [], _ :: _, ws, hr, τ, h, _, _, _, _ => by cases hr
  | i :: is, [], ws, hr, τ, h, _, _, _, _ => by cases hr
  | i :: is, .sc v :: ds, ws, hr, τ, h, _, _, _, _ => by cases hr
  | i :: is, .row d :: ds, ws, hr, τ, h, hn, hi, hs, hw => by
    have hr' := run_ask hr
    split at hr'
    · rename_i f d0 hd0
      obtain ⟨ht, hr'⟩ := run_test hr'
      simp only [Bool.and_eq_true] at ht
      have hk := RK.eqb_iff.1 ht.1
      have hl := Nat.eq_of_beq_eq_true ht.2
      obtain ⟨r, hr1, hr'⟩ := run_bind_some hr'
      have := run_ret hr'; cases this
      obtain ⟨q1, q2, q3⟩ := hi i List.mem_cons_self
      obtain ⟨q4, q5⟩ := q2 _ _ hd0
      cases hw with
      | cons hw1 hw2 =>
        obtain ⟨e, he, ho⟩ := hw1
        have h1 := h.reRow (i := i) q1 (fr := fr) (d := d) (e := e) (q4.trans (kind_wd hk).symm) (q5.trans hl.symm) he ho q3
        rw [push_cons]
        exact writeW_ok hr1 h1 (List.nodup_cons.1 hn).2 (fun j hj => by
          obtain ⟨p1, p2, p3⟩ := hi j (List.mem_cons_of_mem _ hj)
          exact ⟨p1, p2, fun b hb => ⟨(p3 b hb).1.again fun e => hs i List.mem_cons_self j (List.mem_cons_of_mem _ hj) (fun e => (List.nodup_cons.1 hn).1 (e ▸ hj)) b e hb, (p3 b hb).2⟩⟩) (fun j hj k hk => hs j (List.mem_cons_of_mem _ hj) k (List.mem_cons_of_mem _ hk)) hw2
    · cases hr'
theorem mem_owns {is : List Nat} {b : Nat} : b ∈ (is.map g.rv).filterMap Value.ownBlock ↔ ∃ i ∈ is, (g.rv i).ownBlock = some b := by
  simp [List.mem_filterMap, List.mem_map]
theorem owns_nodup (h : Sat F σ a w g) : ∀ {is : List Nat} (_ : is.Nodup) (_ : ∀ i ∈ is, ∃ f d, get σ (.r i) = .row true f d), ((is.map g.rv).filterMap Value.ownBlock).Nodup
  | [], _, _ => .nil
  | i :: is, hn, hd => by
    have ih := owns_nodup h (List.nodup_cons.1 hn).2 fun j hj => hd j (List.mem_cons_of_mem _ hj)
    rw [List.map_cons]
    cases hb : (g.rv i).ownBlock with
    | none => rw [List.filterMap_cons_none hb]; exact ih
    | some b =>
      rw [List.filterMap_cons_some hb]
      refine List.nodup_cons.2 ⟨fun hm => ?_, ih⟩
      obtain ⟨j, hj, hjb⟩ := mem_owns.1 hm
      obtain ⟨f, d, h1⟩ := hd i List.mem_cons_self
      obtain ⟨f', d', h2⟩ := hd j (List.mem_cons_of_mem _ hj)
      exact h.sepR i j _ _ _ _ b (fun e => (List.nodup_cons.1 hn).1 (e ▸ hj)) h1 h2 hb hjb
theorem all_sc {A : Nat → Prop} {ds : List DA} (hs : allSc ds = true) {vs : List Value} (h : All2 (DARep w fun _ => False) vs ds) : All2 (DARep w A) vs ds := by
  induction h with
  | nil => exact .nil
  | cons h _ ih =>
    rename_i _ d _ _ _
    cases d with
    | c x => cases x with
      | sc v => exact .cons h (ih hs)
      | row d => cases hs
    | agg x => cases hs
    | bx x => cases hs
theorem give_ok (hF : F.ek = cx.ek) (h : Sat F σ a w g) {o : Oper} (hd : dstOk F.nt o.dst = true) {id : Nat} {f : FuncId} {args : List Operand} {sp : Sp} {ds : List DA} {ls bs : List Nat} (hargs : (argsR args).run (get σ) = some (ds, ls, bs))
    (hcall : ∀ w B vals os, GArgs cx.ek w B vals ds os → (os.filterMap Value.ownBlock).Nodup → (∀ b ∈ os.filterMap Value.ownBlock, ¬ B b) → (∀ j, B j → j < w.heap.size) → Calls P f vals.toArray w (GPost cx.ek w B os sp))
    {ws : List (Loc × Ct)} (hr : (giveR id o.dst sp args).run (get σ) = some ws) {N : Act → World → Prop} (hn : ∀ v w' g', Sat F (push ws σ) (a.put o.dst v) w' g' → N (a.put o.dst v) w') :
    Calls P f (args.map a.eval).toArray w fun e w' => ∃ v, e = .returned v ∧ N (a.put o.dst v) w' := by
  obtain ⟨⟨is, fr⟩, hg, hr⟩ := run_bind_some hr
  obtain ⟨hnd, hr⟩ := run_test hr
  have hnd := nodupB_nd _ hnd
  obtain ⟨hi, hB⟩ := givesR_ok hF h args ds ls bs hargs is fr hg
  have hi' : ∀ i ∈ is, ∃ f d, get σ (.r i) = .row true f d := fun i hii => let ⟨f, d, q, _⟩ := hi i hii; ⟨f, d, q⟩
  have hrow : ∀ i ∈ is, ∀ b, (g.rv i).ownBlock = some b → ¬ g.G b ∧ (fr = true → F.base ≤ b) ∧ b < w.heap.size := fun i hii b hb => by
    obtain ⟨f, d, q, qf⟩ := hi i hii
    obtain ⟨_, _, _, h4⟩ := h.row i _ _ _ q
    exact ⟨(h4 b hb).1, fun e => (h4 b hb).2.2 (qf e), h.own_lt q hb⟩
  have hbase : F.base ≤ w.heap.size := by have := h.base; have := h.chg.size; omega
  refine (hcall w (PG g F.base fr) _ _ (hB _ fun _ hj => hj) (owns_nodup h hnd hi') (fun b hb hG => by
    obtain ⟨i, hii, hib⟩ := mem_owns.1 hb
    exact (hrow i hii b hib).1 hG.1) fun j hj => h.gb j hj.1).mono fun e w' hpost => ?_
  obtain ⟨v, rfl, hch, hpost⟩ := hpost
  refine ⟨v, rfl, ?_⟩
  obtain ⟨k1, k2, k3, k4⟩ := killAll_ok h hnd hi'
  have hs := k1.world hch fun j _ hx => by
    obtain ⟨u, hu, hub⟩ := hx
    obtain ⟨i, hii, rfl⟩ := List.mem_map.1 hu
    exact k2 i hii j hub
  split at hr
  · rename_i hm hres hou
    rw [hm, hres, hou] at hpost
    obtain ⟨hid, hr⟩ := newLoc_ok hr
    have := run_ret hr; subst this
    obtain ⟨e, he, ho, hob⟩ := hpost
    have hid' : get (push (killW is) σ) (.r id) = .no := by
      rw [k4 _ fun i hii e => ?_]
      · exact hid
      · obtain ⟨f, d, q⟩ := hi' i hii
        rw [← e, hid] at q; cases q
    have hs2 := hs.newRow hid' (fr := fr) (by rw [hF]; exact he) ho fun b hb => by
      rcases hob b hb with ⟨u, hu, hub⟩ | hge
      · obtain ⟨i, hii, rfl⟩ := List.mem_map.1 hu
        exact ⟨k2 i hii b hub, (hrow i hii b hub).2.1⟩
      · exact ⟨k1.fresh hge, fun _ => Nat.le_trans hbase hge⟩
    have hs3 := hs2.dst (dst := o.dst) hd (v := v) (x := .v (.cell (.ref id))) ⟨.inr rfl, (if_pos rfl).symm⟩
    exact hn v w' _ (by rw [push_append, push_cons]; exact hs3)
  · rename_i ds' hm hou
    rw [hm, hou] at hpost
    obtain ⟨w1, hw1, hr⟩ := run_bind_some hr
    obtain ⟨⟨rv, w2⟩, hw2, hr⟩ := run_bind_some hr
    obtain ⟨hsc, hr⟩ := run_test hr
    have := run_ret hr; subst this
    obtain ⟨⟨vs, rfl, hall⟩, hwr⟩ := hpost
    have hs2 := writeW_ok hw1 hs hnd (fun i hii => by
      obtain ⟨f, d, q⟩ := hi' i hii
      obtain ⟨h1, h2, _⟩ := h.row i _ _ _ q
      exact ⟨h1, fun f' d' hq => by rw [q] at hq; cases hq; exact h2, fun b hb => ⟨k2 i hii b hb, (hrow i hii b hb).2.1⟩⟩) (fun i hii j hjj hij b hb e => by
      obtain ⟨f, d, q⟩ := hi' i hii
      obtain ⟨f', d', q'⟩ := hi' j hjj
      exact h.sepR i j _ _ _ _ b hij q q' hb e) (by rw [hF]; exact hwr)
    obtain ⟨rfl, hav⟩ := resN_ok (F := F) (g := g) (A := fun _ => False) (fr := true) (fun _ hj => hj.elim) hall hw2
    have hs3 := hs2.dst (dst := o.dst) hd hav
    exact hn _ w' _ (by rw [push_append, push_append]; exact hs3)
  · cases hr
/-- A call: what the oracle says comes true. -/
theorem call_ok (hΦ : Sound P cx.ek cx.Φ) (hF : F.ek = cx.ek) (h : Sat F σ a w g) {o : Oper} (hd : dstOk F.nt o.dst = true) {id : Nat} {f : FuncId} {c : Call} (ho : o.op = .call c) (hc : c.callee = .value (.func f)) {ws : List (Loc × Ct)} (hr : (callR cx id o.dst f c.args.toList).run (get σ) = some ws)
    {next : Act → World → Prop} {Q : Exit → Act → World → Prop} (hn : ∀ v w' g', Sat F (push ws σ) (a.put o.dst v) w' g' → next (a.put o.dst v) w') : o.wp P a w next Q := by
  obtain ⟨⟨ds, ls, bs⟩, hargs, hr⟩ := run_bind_some hr
  simp only at hr
  split at hr
  · cases hr
  · rename_i sp hsp
    obtain ⟨hpre, hr⟩ := run_test hr
    obtain ⟨⟨fn, hfn, hbody, hname⟩, hcall, hcallG⟩ := hΦ f ds sp hsp hpre
    have hrun : (execOp a.eval o).run P w = .ok (.enter f (c.args.toList.map a.eval).toArray) w := by
      have he : (c.args.map a.eval) = (c.args.toList.map a.eval).toArray := by
        apply Array.toList_inj.1; simp
      simp only [execOp, ho, resolve, hc, Act.eval, Deferred.ofValue, invoke, callFunc, Sem.run_bind, Sem.run_pure, Result.andThen_ok, run_program]
      rw [hfn]
      simp [hname, hbody]
      cases hb : fn.body with
      | none => simp [hb] at hbody
      | some bd => simp [hb, he]
    by_cases hgive : isGive sp.mode = true
    · rw [hgive] at hr
      have := give_ok hF h hd hargs (hcallG hgive) hr hn
      unfold Oper.wp
      rw [hrun]
      refine this.mono fun e w' hpost => ?_
      obtain ⟨v, rfl, hN⟩ := hpost
      exact hN
    have hgive : isGive sp.mode = false := by simpa using hgive
    rw [hgive] at hr
    replace hcall := hcall hgive
    obtain ⟨fz, hfz, hr⟩ := run_bind_some hr
    obtain ⟨os, hos, hr⟩ := run_bind_some hr
    obtain ⟨⟨rv, rw'⟩, hres, hr⟩ := run_bind_some hr
    obtain rfl := run_ret hr
    simp only at hfz hos hres hn
    obtain ⟨hls, hbs, harg⟩ := argsR_ok h _ _ _ _ hargs
    have hargs' := harg ls (fun _ hi => hi) hls
    have hbs1 : bs = [] ∧ os = [] ∧ sp.outs = [] ∨ ∃ b cs, bs = [b] ∧ sp.outs = [cs] ∧ os = [(.b b, .box (cs.map (scCell false)))] := by
      have gen : ∀ outs, (outsW bs outs).run (get σ) = some os → (bs = [] ∧ os = [] ∧ outs = []) ∨ ∃ b cs, bs = [b] ∧ outs = [cs] ∧ os = [(.b b, .box (cs.map (scCell false)))] := fun outs ho => by
        unfold outsW at ho
        split at ho
        · have := run_ret ho; exact .inl ⟨rfl, this.symm, rfl⟩
        · have := run_ret ho; exact .inr ⟨_, _, rfl, rfl, this.symm⟩
        · cases ho
      exact gen _ hos
    have hnd : (bs.map g.bb).Nodup := by rcases hbs1 with ⟨rfl, _⟩ | ⟨b, cs, rfl, _⟩ <;> simp
    have hAlt : ∀ j, lentA g ls j → j < w.heap.size := fun j hj => hj.elim (h.gb j) fun ⟨i, hi, e⟩ => by obtain ⟨fr, d, hd⟩ := hls i hi; exact h.own_lt hd e
    have hcalls := hcall w _ _ _ hargs' hnd hAlt
    unfold Oper.wp
    rw [hrun]
    refine hcalls.mono fun e w' hpost => ?_
    obtain ⟨v, rfl, hch, G', hG', houts, hresr⟩ := hpost
    show next (a.put o.dst v) w'
    -- the freezing
    have hfreeze : ∃ g1, Sat F (push fz σ) a w g1 ∧ g.le g1 ∧ g1.rv = g.rv ∧ ((isAlias sp.mode || hasBx sp.res || !bs.isEmpty) = true → ∀ j, lentA g ls j → g1.G j) ∧ ∀ p ∈ fz, ∃ i fr d, p = (.r i, .row false fr d) := by
      split at hfz
      · rename_i hflag
        obtain ⟨g1, e1, e2, e3, e4, e5⟩ := freezeW_ok h (get σ) (l := ls) (fun i hi => by obtain ⟨fr, d, hd⟩ := hls i hi; exact ⟨true, fr, d, hd, hd⟩) (fun i hi hex => by
          obtain ⟨fr, d, hd⟩ := hls i hi
          obtain ⟨fr', d', hd'⟩ := hex
          rw [hd] at hd'; cases hd') hfz
        exact ⟨g1, e1, e2, e3, fun _ j hj => hj.elim (e2.G j) fun ⟨i, hi, e⟩ => e4 i hi j e, e5⟩
      · rename_i hflag
        have := run_ret hfz
        subst this
        exact ⟨g, h, g.le_refl, rfl, fun hf => (by rw [hf] at hflag; cases hflag), fun p hp => (by cases hp)⟩
    obtain ⟨g1, hs1, hle1, hrv1, hall1, hfzr⟩ := hfreeze
    have hbase : F.base ≤ w.heap.size := by have := h.base; have := h.chg.size; omega
    -- the boxes
    have hboxes : ∃ g2, Sat F (push os (push fz σ)) a w' g2 ∧ g1.le g2 ∧ (∀ j, G' j → g2.G j) ∧ (∀ n, w.heap.size ≤ n → ¬ G' n → Priv F (push os (push fz σ)) g2 n) := by
      have hG1 : ∀ (τ : St) (w1 : World), w1.heap.size = w.heap.size → Sat F τ a w g1 → Sat F τ a w' g1 → Sat F τ a w' (g1.addG G') := fun τ w1 _ ht ht' => ht'.moreG fun j hj => ⟨(hG' j hj).2, fun i fr d hi e => by have := ht.own_lt hi e; have := (hG' j hj).1; omega, fun c cs hcb e => by
        obtain ⟨_, us, ty, h2, _⟩ := ht.box c cs hcb
        have := (Array.getElem?_eq_some_iff.1 h2).1
        have := (hG' j hj).1
        omega, .inr (.inr (Nat.le_trans hbase (hG' j hj).1))⟩
      have hpriv : ∀ (τ : St), Sat F τ a w g1 → ∀ n, w.heap.size ≤ n → ¬ G' n → Priv F τ (g1.addG G') n := fun τ ht n hn1 hn2 => by
        have := ht.fresh hn1
        exact ⟨fun hg => hg.elim this.ng hn2, this.row, this.box, this.base⟩
      rcases hbs1 with ⟨rfl, rfl, _⟩ | ⟨b, cs, rfl, hso, rfl⟩
      · have hs' := hs1.world (hch.mono fun j _ hj => (by simp at hj)) (X := fun _ => False) fun _ _ hx => hx.elim
        exact ⟨_, hG1 _ w rfl hs1 hs', g1.addG_le _, fun j hj => .inr hj, hpriv _ hs1⟩
      · obtain ⟨cs0, hcs0⟩ := hbs b (by simp)
        have hcs1 : get (push fz σ) (.b b) = .box cs0 := by rw [get_push_rows hfzr (by simp)]; exact hcs0
        have hbb : g1.bb b = g.bb b := hle1.bb b (h.box b cs0 hcs0).1
        obtain ⟨hk1, hk2⟩ := hs1.killBox hcs1
        have hs' := hk1.world hch fun j _ hj => by
          simp only [List.map_cons, List.map_nil, List.mem_singleton] at hj
          rw [hj, ← hbb]; exact hk2
        have hs2 := hG1 _ w rfl hk1 hs'
        have hdb : g1.db b := (hs1.box b cs0 hcs1).1
        have hlt : g1.bb b < w.heap.size := by
          obtain ⟨_, us, ty, h2, _⟩ := hs1.box b cs0 hcs1
          exact (Array.getElem?_eq_some_iff.1 h2).1
        rw [hso] at houts
        cases houts with
        | cons ho1 ho2 =>
          obtain ⟨us, ty, hus1, hus2⟩ := ho1
          have hp2 : Priv F ((.b b, .dead) :: push fz σ) (g1.addG G') ((g1.addG G').bb b) :=
            ⟨fun hg => hg.elim hk2.ng fun hg => by have h1 : w.heap.size ≤ g1.bb b := (hG' _ hg).1; omega, hk2.row, hk2.box, hk2.base⟩
          have hs3 := hs2.reBox (b := b) hdb hp2 (cs := cs.map (scCell false)) (us := us) (ty := ty) (by show w'.heap[g1.bb b]? = _; rw [hbb]; exact hus1) (sc_cells (fun j hj => ⟨hj.elim (fun hA => .inl (hall1 (by simp) j hA)) fun hg => .inr hg, fun e => by cases e⟩) hus2)
          have hex : ∀ l, get ((Loc.b b, Ct.box (cs.map (scCell false))) :: push fz σ) l = get ((Loc.b b, Ct.box (cs.map (scCell false))) :: (.b b, .dead) :: push fz σ) l := fun l => by
            by_cases e : l = .b b
            · subst e; rw [get_same, get_same]
            · rw [get_other e, get_other e, get_other e]
          refine ⟨g1.addG G', hs3.ext hex, g1.addG_le _, fun j hj => .inr hj, fun n hn1 hn2 => ?_⟩
          have hp := hpriv _ hk1 n hn1 hn2
          refine ⟨hp.ng, fun i fr d hi => hp.row i fr d (by
            rw [push_cons, push_nil, get_other (by simp)] at hi
            rw [get_other (by simp)]; exact hi), fun c cs2 hcb => ?_, hp.base⟩
          by_cases e : c = b
          · subst e
            intro e2
            have : g1.bb c = n := e2
            omega
          · exact hp.box c cs2 (by rw [get_other (Loc.b_ne e)]; rw [push_cons, push_nil, get_other (Loc.b_ne e)] at hcb; exact hcb)
    obtain ⟨g2, hs2, hle2, hGG, hpriv⟩ := hboxes
    rw [push_append, push_append, push_append] at hn
    -- the result
    have hnew : ∀ (l : Loc), (∀ i, l ≠ .b i ∨ ∀ b ∈ bs, i ≠ b) → (∀ i, l = .r i → get σ l = .no) → get σ l = .no → get (push os (push fz σ)) l = .no := fun l hl1 hl2 hl3 => by
      have hz : get (push fz σ) l = .no := by
        by_cases hex : ∃ p ∈ fz, p.1 = l
        · exfalso
          obtain ⟨p, hp, e⟩ := hex
          obtain ⟨i, fr, d, rfl⟩ := hfzr p hp
          -- a frozen row was there
          have hmem : ∀ (l0 : List Nat) (ws0 : List (Loc × Ct)), (freezeW l0).run (get σ) = some ws0 → ∀ p ∈ ws0, ∃ i o fr d, p.1 = .r i ∧ get σ (.r i) = .row o fr d := by
            intro l0
            induction l0 with
            | nil => intro ws0 h0 p hp; have := run_ret h0; cases this; cases hp
            | cons i0 l0 ih =>
              intro ws0 h0 p hp
              have h0' := run_ask h0
              split at h0'
              · rename_i o0 fr0 d0 hd0
                obtain ⟨ws1, hw1, h2⟩ := run_bind_some h0'
                have := run_ret h2; cases this
                rcases List.mem_cons.1 hp with rfl | hp
                · exact ⟨i0, o0, fr0, d0, rfl, hd0⟩
                · exact ih ws1 hw1 p hp
              · cases h0'
          split at hfz
          · obtain ⟨i', o', fr', d', e1, e2⟩ := hmem _ _ hfz _ hp
            simp only at e e1
            rw [← e, e1, e2] at hl3
            cases hl3
          · have := run_ret hfz
            subst this
            cases hp
        · rw [get_push_other fun p hp e => hex ⟨p, hp, e⟩]; exact hl3
      rcases hbs1 with ⟨_, rfl, _⟩ | ⟨b, cs, rfl, _, rfl⟩
      · exact hz
      · rw [push_cons, push_nil, get_other (fun e => by
          rcases hl1 b with h1 | h1
          · exact h1 e
          · exact h1 b (by simp) rfl)]
        exact hz
    have hGb : ∀ j, G' j → PG g2 F.base true j := fun j hj => by
      have h1 := (hG' j hj).1
      exact ⟨hGG j hj, fun _ => Nat.le_trans hbase h1⟩
    cases hm : sp.mode with
    | mix ows =>
      rw [hm] at hres hresr
      obtain ⟨vs, hvs, hav⟩ := mixR_ok (F := F) hres
      obtain ⟨us, bl, rfl, hdm, hnd2, hbl⟩ := hresr
      obtain ⟨g3, e1, e2, e3⟩ := mixVs_ok hF hdm hvs hs2 (fun i _ hn => hnew _ (fun i => .inl (by simp)) (fun _ _ => hn) hn) hGb (fun ha j hj => hle2.G j (hall1 (by rw [hm]; simp [isAlias, ha]) j hj)) (fun b hb => ⟨hpriv b (hbl b hb).1 (hbl b hb).2, Nat.le_trans hbase (hbl b hb).1⟩) hnd2
      exact hn _ w' _ (wr_dst e1 hd (hav _ _ _ e3))
    | fresh =>
      rw [hm] at hres hresr
      by_cases hbx : ∃ cs, sp.res = [.bx cs]
      · obtain ⟨cs, hcs⟩ := hbx
        rw [hcs] at hres hresr
        obtain ⟨n, rfl, hn1, hn2, us, ty, hn3, hn4⟩ := hresr
        obtain ⟨hno, hres⟩ := newLoc_ok hres
        have := run_ret hres; cases this
        have hgb : get (push os (push fz σ)) (.b id) = .no := hnew _ (fun i => by
          by_cases e : i = id
          · right; intro b hb e2
            subst e2; subst e
            obtain ⟨cs0, hcs0⟩ := hbs _ hb
            rw [hno] at hcs0; cases hcs0
          · left; exact fun e2 => e (by injection e2 with e2; exact e2.symm)) (fun i e => by cases e) hno
        have hflag : (isAlias sp.mode || hasBx sp.res || !bs.isEmpty) = true := by rw [hcs]; simp [hasBx]
        have hs3 := hs2.newBox hgb hn3 (sc_cells (fr := false) (fun j hj => ⟨hj.elim (fun hA => hle2.G j (hall1 hflag j hA)) (hGG j), fun e => by cases e⟩) hn4) (hpriv n hn1 hn2)
        exact hn _ w' _ (wr_dst hs3 hd ⟨.inr rfl, congrArg (fun x => Value.pointer (some ⟨x, 0, none⟩)) (if_pos rfl).symm⟩)
      · have hres' : (resN true sp.res).run (get σ) = some (rv, rw') ∧ ∃ vs, v = tupV vs ∧ All2 (DARep w' G') vs sp.res := by
          cases hsr : sp.res with
          | nil => rw [hsr] at hres hresr; exact ⟨hres, hresr⟩
          | cons x l => rw [hsr] at hres hresr hbx; cases x with
            | c y => exact ⟨hres, hresr⟩
            | agg y => exact ⟨hres, hresr⟩
            | bx y => cases l with
              | nil => exact absurd ⟨y, rfl⟩ hbx
              | cons z l => exact ⟨hres, hresr⟩
        obtain ⟨hres2, vs, rfl, hall⟩ := hres'
        obtain ⟨rfl, hav⟩ := resN_ok (F := F) (g := g2) hGb hall hres2
        exact hn _ w' _ (wr_dst hs2 hd hav)
    | alias =>
      rw [hm] at hres hresr
      have hflag : (isAlias sp.mode || hasBx sp.res || !bs.isEmpty) = true := by rw [hm]; rfl
      have hAG : ∀ j, (lentA g ls j ∨ G' j) → PG g2 F.base false j := fun j hj => ⟨hj.elim (fun hA => hle2.G j (hall1 hflag j hA)) (hGG j), fun e => by cases e⟩
      by_cases hbx : ∃ cs, sp.res = [.bx cs]
      · obtain ⟨cs, hcs⟩ := hbx
        rw [hcs] at hres hresr
        obtain ⟨n, rfl, hn1, hn2, us, ty, hn3, hn4⟩ := hresr
        obtain ⟨hno, hres⟩ := newLoc_ok hres
        have := run_ret hres; cases this
        have hgb : get (push os (push fz σ)) (.b id) = .no := hnew _ (fun i => by
          by_cases e : i = id
          · right; intro b hb e2
            subst e2; subst e
            obtain ⟨cs0, hcs0⟩ := hbs _ hb
            rw [hno] at hcs0; cases hcs0
          · left; exact fun e2 => e (by injection e2 with e2; exact e2.symm)) (fun i e => by cases e) hno
        have hs3 := hs2.newBox hgb hn3 (sc_cells hAG hn4) (hpriv n hn1 hn2)
        exact hn _ w' _ (wr_dst hs3 hd ⟨.inr rfl, congrArg (fun x => Value.pointer (some ⟨x, 0, none⟩)) (if_pos rfl).symm⟩)
      · have hres' : (resN false sp.res).run (get σ) = some (rv, rw') ∧ ∃ vs, v = tupV vs ∧ All2 (DARep w' fun j => lentA g ls j ∨ G' j) vs sp.res := by
          cases hsr : sp.res with
          | nil => rw [hsr] at hres hresr; exact ⟨hres, hresr⟩
          | cons x l => rw [hsr] at hres hresr hbx; cases x with
            | c y => exact ⟨hres, hresr⟩
            | agg y => exact ⟨hres, hresr⟩
            | bx y => cases l with
              | nil => exact absurd ⟨y, rfl⟩ hbx
              | cons z l => exact ⟨hres, hresr⟩
        obtain ⟨hres2, vs, rfl, hall⟩ := hres'
        obtain ⟨rfl, hav⟩ := resN_ok (F := F) (g := g2) hAG hall hres2
        exact hn _ w' _ (wr_dst hs2 hd hav)
    | take => rw [hm] at hgive; cases hgive
    | write => rw [hm] at hgive; cases hgive
end
end Vx
