/- Regions: in the text's order, and in any order. Conditions: those that each theorem states. -/
import Derived.Test.YtbgheffgkncpgaaVxEff
import Derived.Orders
import Derived.Tactics
set_option linter.unusedVariables false
set_option linter.unusedSimpArgs false
namespace Vx
open Go Go.RowKit

theorem lookupK_eq {R : Type} (σ : St) (l : Loc) (k : Ct → Option R) : lookupK σ l k = k (get σ l) := by
  induction σ with
  | nil => rfl
  | cons x σ ih =>
    obtain ⟨m, c⟩ := x
    simp only [lookupK, get]
    cases l.beq m
    · exact ih
    · rfl
theorem appK_eq {R : Type} (ws : List (Loc × Ct)) (σ : St) (k : St → Option R) : appK ws σ k = k (push ws σ) := by
  induction ws generalizing σ with
  | nil => rfl
  | cons w ws ih => exact ih _
theorem runK_some {α R : Type} {m : Rd α} {σ : St} {rs : List Loc} {k : α → List Loc → Option R} {r : R} (h : m.runK σ rs k = some r) : ∃ x, m.run (get σ) = some x ∧ k x ((m.reads (get σ)).reverse ++ rs) = some r := by
  induction m generalizing rs with
  | ret x => exact ⟨x, rfl, h⟩
  | fail => cases h
  | ask l f ih =>
    rw [Rd.runK, lookupK_eq] at h
    obtain ⟨x, h1, h2⟩ := ih _ h
    refine ⟨x, h1, ?_⟩
    simp only [Rd.reads, List.reverse_cons, List.append_assoc, List.singleton_append]
    exact h2
  | br c t e iht ihe =>
    cases c
    · obtain ⟨x, h1, h2⟩ := ihe h; exact ⟨x, h1, h2⟩
    · obtain ⟨x, h1, h2⟩ := iht h; exact ⟨x, h1, h2⟩
theorem splitK_some {R : Type} {ops : Array Oper} {dst : Option Tmp} {l : List Oper} {σ : St} {k : St → Option R} {r : R} (h : splitK ops dst l σ k = some r) : ∃ σ', k σ' = some r ∧ ∀ m, get σ' m = get σ m := by
  unfold splitK at h
  split at h
  · exact ⟨σ, h, fun _ => rfl⟩
  · rename_i d
    split at h
    · exact ⟨σ, h, fun _ => rfl⟩
    · rw [lookupK_eq] at h
      split at h
      · rename_i b hb
        split at h
        · refine ⟨_, h, fun m => ?_⟩
          by_cases e : m = .t d
          · subst e; rw [get_same, hb]
          · exact get_other e _ _
        · refine ⟨_, h, fun m => ?_⟩
          by_cases e : m = .t d
          · subst e; rw [get_same, hb]
          · exact get_other e _ _
      · exact ⟨σ, h, fun _ => rfl⟩
/-- What a run leans on is what it reads. -/
theorem run_local {α : Type} {m : Rd α} {G G' : Loc → Ct} (h : ∀ l ∈ m.reads G, G' l = G l) : m.run G' = m.run G ∧ m.reads G' = m.reads G := by
  induction m with
  | ret x => exact ⟨rfl, rfl⟩
  | fail => exact ⟨rfl, rfl⟩
  | ask l f ih =>
    have hl := h l (by simp [Rd.reads])
    have hf := ih (G l) (fun m hm => h m (by simp [Rd.reads, hm]))
    simp only [Rd.run, Rd.reads, hl]
    exact ⟨hf.1, by rw [hf.2]⟩
  | br c t e iht ihe =>
    cases c
    · exact ihe h
    · exact iht h

section
variable {P : Program} {cx : Cx} {F : Fr} {σ : St} {a : Act} {w : World} {g : Gm}
theorem yielded_bool {ops : Array Oper} {j : Nat} {oj : Oper} {d : Tmp} {b : Bool} (h1 : ops[j]? = some oj) (h2 : oj.dst = some d) (h3 : a.tmps.getD d undef = .bool b) : yielded ops a.tmps j = some b := by
  have h4 : a.tmps[d]? = some (.bool b) := by
    rw [Array.getD_eq_getD_getElem?] at h3
    cases h : a.tmps[d]? with
    | none => rw [h] at h3; simp [undef] at h3
    | some v => rw [h] at h3; simp at h3; rw [h3]
  simp [yielded, h1, h2, h4]
theorem yielded_none {ops : Array Oper} {j : Nat} {oj : Oper} {d : Tmp} {vs : Array Value} (h1 : ops[j]? = some oj) (h2 : oj.dst = some d) (h3 : a.tmps.getD d undef = .tuple vs) : yielded ops a.tmps j = none := by
  unfold yielded
  simp only [h1, h2, Option.bind_some]
  cases h : a.tmps[d]? with
  | none => rfl
  | some v =>
    rw [Array.getD_eq_getD_getElem?, h] at h3
    simp at h3
    subst h3
    rfl
/-- An operation with its guard, where its turn has come. -/
theorem effG_ok (htab : TabOk P cx) (hΦ : Sound P cx.ek cx.Φ) (hF : F.ek = cx.ek) (h : Sat F σ a w g) {ops : Array Oper} {o : Oper} {id : Nat} {ws : List (Loc × Ct)} (hr : (effG cx F.nt ops id o).run (get σ) = some ws)
    {next : Act → World → Prop} {Q : Exit → Act → World → Prop} (hn : ∀ v w' g', Sat F (push ws σ) (a.put o.dst v) w' g' → next (a.put o.dst v) w') :
    (Region.wanted o (yielded ops a.tmps) = true ∧ o.wp P a w next Q) ∨ (Region.wanted o (yielded ops a.tmps) = false ∧ next (a.put o.dst undef) w) := by
  unfold effG at hr
  split at hr
  · cases hr
  · rename_i hd
    split at hr
    · rename_i hg
      exact .inl ⟨by simp [Region.wanted, hg], eff_ok htab hΦ hF h hd hr hn⟩
    · rename_i j want hg
      split at hr
      · rename_i oj hoj
        split at hr
        · rename_i d hdj
          have hr' := run_ask hr
          split at hr'
          · rename_i b hb
            have hv := h.tmp d _ hb
            have hy := yielded_bool (a := a) hoj hdj hv
            have hw : Region.wanted o (yielded ops a.tmps) = (b == want) := by
              simp only [Region.wanted, hg, hy]
              cases b <;> cases want <;> rfl
            cases hbw : (b == want) with
            | true =>
              rw [hbw] at hr' hw
              exact .inl ⟨hw, eff_ok htab hΦ hF h hd hr' hn⟩
            | false =>
              rw [hbw] at hr' hw
              have := run_ret (x := wr o.dst (.v (.cell (.sc undef)))) (g := get σ) hr'
              subst this
              exact .inr ⟨hw, hn undef w g (wr_dst h hd rfl)⟩
          · rename_i vs hb
            have hv := h.tmp d _ hb
            have hy := yielded_none (a := a) hoj hdj hv
            have := run_ret hr'
            subst this
            exact .inr ⟨by simp [Region.wanted, hg, hy], hn undef w g (wr_dst h hd rfl)⟩
          · cases hr'
        · cases hr
      · cases hr
/-- In the text's order. -/
theorem opsK_seq (htab : TabOk P cx) (hΦ : Sound P cx.ek cx.Φ) (hF : F.ek = cx.ek) {R : Type} {ops : Array Oper} {id : Nat} {Q : Exit → Act → World → Prop} {k : St → List (List Loc × List Loc) → Option R} {r : R}
    (hk : ∀ σ' log' a' w' g', k σ' log' = some r → Sat F σ' a' w' g' → Q .normal a' w') : ∀ (l : List Oper) (p : Nat) (σ : St) (log : List (List Loc × List Loc)) (a : Act) (w : World) (g : Gm),
    opsK cx F.nt ops id l p σ log k = some r → Sat F σ a w g → wpList P ops Q l a w
  | [], p, σ, log, a, w, g, hr, h => hk _ _ _ _ _ hr h
  | o :: l, p, σ, log, a, w, g, hr, h => by
    unfold opsK at hr
    obtain ⟨ws, h1, h2⟩ := runK_some hr
    rw [appK_eq] at h2
    obtain ⟨σ', h3, h4⟩ := splitK_some h2
    have hnext : ∀ v w' g', Sat F (push ws σ) (a.put o.dst v) w' g' → wpList P ops Q l (a.put o.dst v) w' := fun v w' g' hs => opsK_seq htab hΦ hF hk l (p + 1) σ' _ _ _ g' h3 (hs.ext h4)
    unfold wpList
    rcases effG_ok htab hΦ hF h h1 hnext with ⟨hw, hwp⟩ | ⟨hw, hnx⟩
    · rw [if_pos hw]; exact .inl hwp
    · rw [if_neg (by rw [hw]; exact Bool.false_ne_true)]; exact hnx
end

/-! in any order -/
structure Item where
  p : Nat
  o : Oper
  rs : List Loc
  ws : List (Loc × Ct)
def keys (ws : List (Loc × Ct)) : List Loc := ws.map (·.1)
/-- What the writes make of a state. -/
def upd (ws : List (Loc × Ct)) (G : Loc → Ct) : Loc → Ct := fun l => ws.foldl (fun c p => if l = p.1 then p.2 else c) (G l)
theorem get_push (ws : List (Loc × Ct)) (σ : St) : get (push ws σ) = upd ws (get σ) := by
  funext l
  unfold upd
  induction ws generalizing σ with
  | nil => rfl
  | cons x ws ih => rw [push_cons, ih, List.foldl_cons, get_cons]
theorem upd_out {ws : List (Loc × Ct)} {G : Loc → Ct} {l : Loc} (h : l ∉ keys ws) : upd ws G l = G l := by
  unfold upd
  induction ws generalizing G with
  | nil => rfl
  | cons x ws ih =>
    simp only [keys, List.map_cons, List.mem_cons, not_or] at h
    rw [List.foldl_cons, if_neg h.1]
    exact ih (G := G) h.2
theorem upd_in {ws : List (Loc × Ct)} {G G' : Loc → Ct} {l : Loc} (h : l ∈ keys ws) : upd ws G l = upd ws G' l := by
  unfold upd
  have : ∀ (ws : List (Loc × Ct)) (c c' : Ct), l ∈ keys ws → ws.foldl (fun c p => if l = p.1 then p.2 else c) c = ws.foldl (fun c p => if l = p.1 then p.2 else c) c' := by
    intro ws
    induction ws with
    | nil => intro c c' h; cases h
    | cons x ws ih =>
      intro c c' h
      rw [List.foldl_cons, List.foldl_cons]
      by_cases e : l = x.1
      · rw [if_pos e, if_pos e]
      · rw [if_neg e, if_neg e]
        simp only [keys, List.map_cons, List.mem_cons] at h
        exact ih c c' (h.resolve_left e)
  exact this ws _ _ h
theorem upd_comm {ws us : List (Loc × Ct)} (h : ∀ l ∈ keys ws, l ∉ keys us) (G : Loc → Ct) : upd us (upd ws G) = upd ws (upd us G) := by
  funext l
  by_cases h1 : l ∈ keys ws
  · rw [upd_out (h l h1), upd_in h1]
  · by_cases h2 : l ∈ keys us
    · rw [upd_out h1 (G := upd us G)]; exact upd_in h2
    · rw [upd_out h2, upd_out h1, upd_out h1, upd_out h2]
structure Ind (x y : Item) : Prop where
  wr : ∀ l ∈ keys x.ws, l ∉ y.rs
  ww : ∀ l ∈ keys x.ws, l ∉ keys y.ws
  rw : ∀ l ∈ x.rs, l ∉ keys y.ws
/-- The same with states as functions. -/
inductive RunsF (cx : Cx) (nt : Nat) (ops : Array Oper) (id : Nat) : List Item → (Loc → Ct) → (Loc → Ct) → Prop where
  | nil {G} : RunsF cx nt ops id [] G G
  | cons {x l G H} (h1 : (effG cx nt ops (id + 16 * x.p) x.o).run G = some x.ws) (h2 : (effG cx nt ops (id + 16 * x.p) x.o).reads G = x.rs) (t : RunsF cx nt ops id l (upd x.ws G) H) : RunsF cx nt ops id (x :: l) G H
section
variable {cx : Cx} {nt : Nat} {ops : Array Oper} {id : Nat}
theorem RunsF.swap2 {x y : Item} {l : List Item} {G H : Loc → Ct} (hi : Ind x y) (h : RunsF cx nt ops id (x :: y :: l) G H) : RunsF cx nt ops id (y :: x :: l) G H := by
  cases h with
  | cons h1 h2 t =>
    cases t with
    | cons h3 h4 t =>
      have e1 := run_local (m := effG cx nt ops (id + 16 * y.p) y.o) (G := upd x.ws G) (G' := G) fun l hl => (upd_out fun hk => hi.wr l hk (h4 ▸ hl)).symm
      have e2 := run_local (m := effG cx nt ops (id + 16 * x.p) x.o) (G := G) (G' := upd y.ws G) fun l hl => upd_out (hi.rw l (h2 ▸ hl))
      refine .cons (e1.1.trans h3) (e1.2.trans h4) (.cons (e2.1.trans h1) (e2.2.trans h2) ?_)
      rw [← upd_comm hi.ww]
      exact t
theorem RunsF.front {x : Item} : ∀ {l1 l2 : List Item} {G H : Loc → Ct}, (∀ y ∈ l1, Ind y x) → RunsF cx nt ops id (l1 ++ x :: l2) G H → RunsF cx nt ops id (x :: (l1 ++ l2)) G H
  | [], _, _, _, _, h => h
  | y :: l1, l2, G, H, hi, h => by
    cases h with
    | cons h1 h2 t =>
      exact RunsF.swap2 (hi y List.mem_cons_self) (.cons h1 h2 (RunsF.front (fun z hz => hi z (List.mem_cons_of_mem _ hz)) t))
/-- What an executed list of operations was: its items. -/
theorem opsK_items {R : Type} {k : St → List (List Loc × List Loc) → Option R} {r : R} : ∀ (l : List Oper) (p : Nat) (σ : St) (log : List (List Loc × List Loc)), opsK cx nt ops id l p σ log k = some r →
    ∃ (its : List Item) (σ' : St), its.map (fun x => (x.p, x.o)) = (l.zipIdx p).map (fun x => (x.2, x.1)) ∧ RunsF cx nt ops id its (get σ) (get σ') ∧ k σ' ((its.map fun x => (x.rs.reverse, keys x.ws)).reverse ++ log) = some r
  | [], p, σ, log, h => ⟨[], σ, rfl, .nil, h⟩
  | o :: l, p, σ, log, h => by
    unfold opsK at h
    obtain ⟨ws, h1, h2⟩ := runK_some h
    rw [appK_eq] at h2
    obtain ⟨σ1, h3, h4⟩ := splitK_some h2
    obtain ⟨its, σ', e1, e2, e3⟩ := opsK_items l (p + 1) σ1 _ h3
    have hG : get σ1 = upd ws (get σ) := by funext m; rw [h4 m, get_push]
    refine ⟨⟨p, o, (effG cx nt ops (id + 16 * p) o).reads (get σ), ws⟩ :: its, σ', ?_, .cons h1 rfl (by rw [← hG]; exact e2), ?_⟩
    · simp only [List.map_cons, List.zipIdx_cons]
      rw [e1]
    · simp only [List.map_cons, List.reverse_cons, List.append_assoc, List.singleton_append]
      simp only [List.append_nil] at e3
      exact e3
end
end Vx
