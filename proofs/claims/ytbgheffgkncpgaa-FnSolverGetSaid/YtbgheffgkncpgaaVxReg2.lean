/- A drawn region: any order that its edges allow comes to the same. Conditions: those that each theorem states. -/
import Derived.Test.YtbgheffgkncpgaaVxReg
set_option linter.unusedVariables false
set_option linter.unusedSimpArgs false
namespace Vx
open Go Go.RowKit

structure AncOk (ops : Array Oper) (A : Nat → Nat → Prop) : Prop where
  back : ∀ (j : Nat) o, ops[j]? = some o → ∀ e ∈ o.after, Region.binds .any e = true → e.on < j
  anc : ∀ (j : Nat) o, ops[j]? = some o → ∀ k, A j k → ∃ e ∈ o.after, Region.binds .any e = true ∧ (k = e.on ∨ A e.on k)
theorem getD_tf {listed : Array Bool} {p : Nat} (hp : p < listed.size) : listed.getD p true = listed.getD p false := by simp [hp]
section
variable {P : Program} {cx : Cx} {F : Fr}
theorem any_ok (htab : TabOk P cx) (hΦ : Sound P cx.ek cx.Φ) (hF : F.ek = cx.ek) {ops : Array Oper} {id : Nat} {A : Nat → Nat → Prop} (hA : AncOk ops A) {H : Loc → Ct} {Q : Exit → Act → World → Prop} (hfin : ∀ σ' a' w' g', get σ' = H → Sat F σ' a' w' g' → Q .normal a' w') :
    ∀ (n : Nat) (its : List Item) (listed : Array Bool) (σ : St) (a : Act) (w : World) (g : Gm), its.length = n → listed.size = ops.size → (∀ p, p < ops.size → (listed.getD p true = false ↔ ∃ x ∈ its, x.p = p)) → (∀ x ∈ its, ops[x.p]? = some x.o) → its.Pairwise (fun x y => x.p < y.p) →
      its.Pairwise (fun x y => A y.p x.p ∨ Ind x y) → (∀ j, listed.getD j false = true → ∀ k, A j k → listed.getD k false = true) → RunsF cx F.nt ops id its (get σ) H → Sat F σ a w g → wpAny P .any ops Q n listed a w := by
  intro n
  induction n with
  | zero =>
    intro its listed σ a w g hl hs hun hops hso hin hcl hrun hsat
    have : its = [] := List.eq_nil_of_length_eq_zero hl
    subst this
    refine ⟨?_, ?_⟩
    · apply List.eq_nil_iff_forall_not_mem.2
      intro p hp
      obtain ⟨h1, o, h2, _⟩ := mem_ready.1 hp
      have hlt := (Array.getElem?_eq_some_iff.1 h2).1
      obtain ⟨x, hx, _⟩ := (hun p hlt).1 h1
      cases hx
    · cases hrun
      exact hfin σ a w g rfl hsat
  | succ n ih =>
    intro its listed σ a w g hl hs hun hops hso hin hcl hrun hsat
    have unl : ∀ x ∈ its, x.p < ops.size ∧ listed.getD x.p true = false := fun x hx => by
      have hlt := (Array.getElem?_eq_some_iff.1 (hops x hx)).1
      exact ⟨hlt, (hun _ hlt).2 ⟨x, hx, rfl⟩⟩
    refine ⟨fun hr => ?_, fun i hi => ?_⟩
    · -- the first one is ready
      exfalso
      cases its with
      | nil => cases hl
      | cons x0 l =>
        obtain ⟨hlt, hx0⟩ := unl x0 List.mem_cons_self
        have hmem : x0.p ∈ Region.ready .any ops listed := by
          refine mem_ready.2 ⟨hx0, x0.o, hops x0 List.mem_cons_self, fun e he hb => ?_⟩
          have hlt2 := hA.back _ _ (hops x0 List.mem_cons_self) e he hb
          cases hc : listed.getD e.on false with
          | true => rfl
          | false =>
            exfalso
            have hc' : listed.getD e.on true = false := by rw [getD_tf (by omega)]; exact hc
            obtain ⟨y, hy, hyp⟩ := (hun e.on (by omega)).1 hc'
            rcases List.mem_cons.1 hy with rfl | hy
            · omega
            · have := (List.pairwise_cons.1 hso).1 y hy; omega
        rw [hr] at hmem
        cases hmem
    · obtain ⟨hi1, oi, hi2, hi3⟩ := mem_ready.1 hi
      have hilt := (Array.getElem?_eq_some_iff.1 hi2).1
      obtain ⟨x, hx, hxp⟩ := (hun i hilt).1 hi1
      subst hxp
      obtain ⟨l1, l2, rfl⟩ := List.append_of_mem hx
      have hxo : x.o = oi := by have := hops x hx; rw [hi2] at this; exact (Option.some.inj this).symm
      have hanc : ∀ k, A x.p k → listed.getD k false = true := fun k hk => by
        obtain ⟨e, he, hb, hor⟩ := hA.anc _ _ hi2 k hk
        have he' := hi3 e he hb
        rcases hor with rfl | hk'
        · exact he'
        · exact hcl e.on he' k hk'
      have hind : ∀ y ∈ l1, Ind y x := fun y hy => by
        have hp := (List.pairwise_append.1 hin).2.2 y hy x List.mem_cons_self
        refine hp.resolve_left fun hya => ?_
        have h1 := hanc _ hya
        obtain ⟨h2, h3⟩ := unl y (List.mem_append_left _ hy)
        rw [getD_tf (by omega), h1] at h3
        cases h3
      have hrun' := RunsF.front hind hrun
      cases hrun' with
      | cons h1 h2 t =>
        have hlen : (l1 ++ l2).length = n := by simp at hl ⊢; omega
        have hnext : ∀ v w' g', Sat F (push x.ws σ) (a.put x.o.dst v) w' g' → wpAny P .any ops Q n (listed.setIfInBounds x.p true) (a.put x.o.dst v) w' := fun v w' g' hs' => by
          refine ih (l1 ++ l2) (listed.setIfInBounds x.p true) (push x.ws σ) _ w' g' hlen (by simp [hs]) ?_ (fun y hy => hops y ?_) ?_ ?_ ?_ (by rw [get_push]; exact t) hs'
          · intro p hp
            have hso' := List.pairwise_append.1 hso
            by_cases e : p = x.p
            · subst e
              constructor
              · intro h; simp [hs, hilt] at h
              · rintro ⟨y, hy, hyp⟩
                exfalso
                rcases List.mem_append.1 hy with hy | hy
                · have := hso'.2.2 y hy x List.mem_cons_self; omega
                · have := (List.pairwise_cons.1 hso'.2.1).1 y hy; omega
            · rw [getD_set_ne true (Ne.symm e), hun p hp]
              constructor
              · rintro ⟨y, hy, hyp⟩
                refine ⟨y, ?_, hyp⟩
                rcases List.mem_append.1 hy with hy | hy
                · exact List.mem_append_left _ hy
                · rcases List.mem_cons.1 hy with rfl | hy
                  · exact absurd hyp.symm e
                  · exact List.mem_append_right _ hy
              · rintro ⟨y, hy, hyp⟩
                refine ⟨y, ?_, hyp⟩
                rcases List.mem_append.1 hy with hy | hy
                · exact List.mem_append_left _ hy
                · exact List.mem_append_right _ (List.mem_cons_of_mem _ hy)
          · rcases List.mem_append.1 hy with hy | hy
            · exact List.mem_append_left _ hy
            · exact List.mem_append_right _ (List.mem_cons_of_mem _ hy)
          · have := List.pairwise_append.1 hso
            exact List.pairwise_append.2 ⟨this.1, (List.pairwise_cons.1 this.2.1).2, fun y hy z hz => this.2.2 y hy z (List.mem_cons_of_mem _ hz)⟩
          · have := List.pairwise_append.1 hin
            exact List.pairwise_append.2 ⟨this.1, (List.pairwise_cons.1 this.2.1).2, fun y hy z hz => this.2.2 y hy z (List.mem_cons_of_mem _ hz)⟩
          · intro j hj k hk
            by_cases e : j = x.p
            · subst e; exact getD_set_true (hanc k hk)
            · rw [getD_set_ne false (Ne.symm e)] at hj
              exact getD_set_true (hcl j hj k hk)
        unfold wpOp
        simp only [hi2]
        rw [← hxo]
        rcases effG_ok htab hΦ hF hsat h1 hnext with ⟨hw, hwp⟩ | ⟨hw, hnx⟩
        · rw [if_pos hw]; exact .inl hwp
        · rw [if_neg (by rw [hw]; exact Bool.false_ne_true)]; exact hnx
end

/-! the checks -/
theorem memL_iff {l : Loc} {ms : List Loc} : memL l ms = true ↔ l ∈ ms := by
  induction ms with
  | nil => simp [memL]
  | cons m ms ih => simp [memL, ih, Loc.beq_iff]
theorem disj_ok {a b : List Loc} (h : disj a b = true) : ∀ l ∈ a, l ∉ b := fun l hl hb => by
  simp only [disj, List.all_eq_true] at h
  have := h l hl
  rw [memL_iff.2 hb] at this
  cases this
theorem edgesOk_ok : ∀ (l : List Oper) (i : Nat), edgesOk l i = true → ∀ (j : Nat) o, l[j]? = some o → ∀ e ∈ o.after, Region.binds .any e = true → e.on < i + j
  | [], i, _, j, o, hj, _, _, _ => by simp at hj
  | x :: l, i, h, j, o, hj, e, he, hb => by
    simp only [edgesOk, Bool.and_eq_true, List.all_eq_true] at h
    cases j with
    | zero =>
      simp at hj
      subst hj
      have := h.1 e (by simpa using he)
      rw [hb] at this
      simpa using this
    | succ j =>
      have := edgesOk_ok l (i + 1) h.2 j o (by simpa using hj) e he hb
      omega
theorem hasB_iff (m j : Nat) : hasB m j = m.testBit j := by
  have h1 : Nat.land (Nat.shiftRight m j) 1 = (m >>> j) % 2 := Nat.and_one_is_mod _
  unfold hasB
  rw [h1, Nat.testBit_eq_decide_div_mod_eq, Nat.shiftRight_eq_div_pow]
  cases Nat.mod_two_eq_zero_or_one (m / 2 ^ j) with
  | inl h => rw [h]; rfl
  | inr h => rw [h]; rfl
theorem hasB_lor (a b j : Nat) : hasB (Nat.lor a b) j = (hasB a j || hasB b j) := by
  rw [hasB_iff, hasB_iff, hasB_iff]
  exact Nat.testBit_or a b j
theorem hasB_one (i j : Nat) : hasB (Nat.shiftLeft 1 i) j = true → j = i := by
  rw [hasB_iff]
  intro h
  have h : (1 <<< i).testBit j = true := h
  rw [Nat.shiftLeft_eq, Nat.one_mul, Nat.testBit_two_pow] at h
  exact (of_decide_eq_true h).symm
theorem ancOf_ok (acc : List Nat) (k : Nat) : ∀ (l : List Edge) (m : Nat), hasB (ancOf acc l m) k = true → hasB m k = true ∨ ∃ e ∈ l, Region.binds .any e = true ∧ (k = e.on ∨ hasB (acc.getD e.on 0) k = true)
  | [], m, h => .inl h
  | e :: l, m, h => by
    unfold ancOf at h
    split at h
    · rename_i hb
      rcases ancOf_ok acc k l _ h with h1 | ⟨e', he', h1⟩
      · rw [hasB_lor, hasB_lor, Bool.or_eq_true, Bool.or_eq_true] at h1
        rcases h1 with h1 | h1 | h1
        · exact .inl h1
        · exact .inr ⟨e, List.mem_cons_self, hb, .inl (hasB_one _ _ h1)⟩
        · exact .inr ⟨e, List.mem_cons_self, hb, .inr h1⟩
      · exact .inr ⟨e', List.mem_cons_of_mem _ he', h1⟩
    · rcases ancOf_ok acc k l _ h with h1 | ⟨e', he', h1⟩
      · exact .inl h1
      · exact .inr ⟨e', List.mem_cons_of_mem _ he', h1⟩
theorem ancs_prefix : ∀ (l : List Oper) (acc : List Nat) (j : Nat), j < acc.length → (ancs l acc).getD j 0 = acc.getD j 0
  | [], acc, j, _ => rfl
  | o :: l, acc, j, h => by
    simp only [ancs]
    rw [ancs_prefix l _ j (by simp; omega)]
    simp only [List.getD_eq_getElem?_getD]
    rw [List.getElem?_append_left h]
theorem ancs_ok : ∀ (l : List Oper) (acc : List Nat), (∀ (j : Nat) o, l[j]? = some o → ∀ e ∈ o.after, Region.binds .any e = true → e.on < acc.length + j) →
    ∀ (j : Nat) o, l[j]? = some o → ∀ k, hasB ((ancs l acc).getD (acc.length + j) 0) k = true → ∃ e ∈ o.after, Region.binds .any e = true ∧ (k = e.on ∨ hasB ((ancs l acc).getD e.on 0) k = true)
  | [], acc, _, j, o, hj, _, _ => by simp at hj
  | x :: l, acc, hb, j, o, hj, k, hk => by
    simp only [ancs] at hk ⊢
    cases j with
    | zero =>
      simp at hj
      subst hj
      rw [ancs_prefix l _ _ (by simp)] at hk
      simp only [List.getD_eq_getElem?_getD, Nat.add_zero] at hk
      rw [List.getElem?_append_right (Nat.le_refl _)] at hk
      simp only [Nat.sub_self, List.getElem?_cons_zero, Option.getD_some] at hk
      rcases ancOf_ok acc k _ _ hk with h0 | ⟨e, he, hbe, h1⟩
      · rw [hasB_iff, Nat.zero_testBit] at h0; cases h0
      · have he' : e ∈ x.after := by simpa using he
        refine ⟨e, he', hbe, h1.imp id fun h2 => ?_⟩
        have hlt := hb 0 x rfl e he' hbe
        rw [ancs_prefix l _ _ (by simp; omega)]
        simp only [List.getD_eq_getElem?_getD]
        rw [List.getElem?_append_left (by omega)]
        simpa [List.getD_eq_getElem?_getD] using h2
    | succ j =>
      have hlen : ∀ (y : Nat), (acc ++ [y]).length + j = acc.length + (j + 1) := fun y => by simp; omega
      exact ancs_ok l (acc ++ [ancOf acc x.after.toList 0]) (fun j' o' hj' e he hbe => by
        have := hb (j' + 1) o' (by simpa using hj') e he hbe
        simp only [List.length_append, List.length_cons, List.length_nil]; omega) j o (by simpa using hj) k (by rw [hlen]; exact hk)
theorem indepRow_ok {anc : Nat} {x : List Loc × List Loc} : ∀ (l : List (List Loc × List Loc)) (j : Nat), indepRow anc x l j = true → ∀ (i : Nat) y, l[i]? = some y → hasB anc (j + i) = true ∨ (disj y.2 x.1 = true ∧ disj y.2 x.2 = true ∧ disj y.1 x.2 = true)
  | [], j, _, i, y, hi => by simp at hi
  | z :: l, j, h, i, y, hi => by
    simp only [indepRow, Bool.and_eq_true, Bool.or_eq_true] at h
    cases i with
    | zero =>
      simp at hi
      subst hi
      rcases h.1 with h1 | h1
      · exact .inl h1
      · exact .inr ⟨h1.1.1, h1.1.2, h1.2⟩
    | succ i =>
      have := indepRow_ok l (j + 1) h.2 i y (by simpa using hi)
      rw [show j + (i + 1) = j + 1 + i by omega]
      exact this
theorem indepB_ok {an : List Nat} : ∀ (l before : List (List Loc × List Loc)) (j : Nat), before.length = j → indepB an before l j = true →
    ∀ (i k : Nat) x y, i < k → (before ++ l)[i]? = some x → (before ++ l)[k]? = some y → j ≤ k → hasB (an.getD k 0) i = true ∨ (disj x.2 y.1 = true ∧ disj x.2 y.2 = true ∧ disj x.1 y.2 = true)
  | [], before, j, hb, _, i, k, x, y, _, _, hy, hk => by
    simp at hy
    have := (List.getElem?_eq_some_iff.1 hy).1
    omega
  | z :: l, before, j, hb, h, i, k, x, y, hik, hx, hy, hk => by
    simp only [indepB, Bool.and_eq_true] at h
    by_cases e : k = j
    · subst e
      have hz : y = z := by
        rw [List.getElem?_append_right (by omega)] at hy
        simp [hb] at hy
        exact hy.symm
      subst hz
      rw [List.getElem?_append_left (by omega)] at hx
      have := indepRow_ok before 0 h.1 i x hx
      rw [Nat.zero_add] at this
      exact this
    · have := indepB_ok l (before ++ [z]) (j + 1) (by simp [hb]) h.2 i k x y hik (by simpa using hx) (by simpa using hy) (by omega)
      exact this

theorem memK_eq {R : Type} : ∀ (σ acc : St) (k : St → Option R), memK σ acc k = k (push ((σ.filter isMem).reverse ++ acc) [])
  | [], acc, k => by simp [memK, appK_eq]
  | w :: σ, acc, k => by
    unfold memK
    cases hw : isMem w with
    | true => rw [memK_eq σ (w :: acc) k]; simp [hw]
    | false => rw [memK_eq σ acc k]; simp [hw]
theorem push_rev (l : St) : push l.reverse [] = l := by simp [push]
theorem get_filter (σ : St) (l : Loc) (h : ∀ c, isMem (l, c) = true) : get (σ.filter isMem) l = get σ l := by
  induction σ with
  | nil => rfl
  | cons x σ ih =>
    obtain ⟨m, c⟩ := x
    by_cases hm : isMem (m, c) = true
    · rw [List.filter_cons_of_pos hm, get_cons, get_cons, ih]
    · rw [List.filter_cons_of_neg hm, ih, get_cons, if_neg fun e : l = m => hm (by rw [← e]; exact h c)]
theorem get_filter_t (σ : St) (t : Nat) : get (σ.filter isMem) (.t t) = .no := by
  induction σ with
  | nil => rfl
  | cons x σ ih =>
    obtain ⟨m, c⟩ := x
    cases m with
    | t n => rw [List.filter_cons_of_neg (by simp [isMem])]; exact ih
    | r n => rw [List.filter_cons_of_pos (by rfl), get_cons, if_neg (by simp)]; exact ih
    | b n => rw [List.filter_cons_of_pos (by rfl), get_cons, if_neg (by simp)]; exact ih
theorem pruneK_some {R : Type} {σ0 : St} {k : St → Option R} {r : R} : ∀ (ts : List Nat) (acc : St), pruneK σ0 ts acc k = some r →
    ∃ τ, k τ = some r ∧ (∀ i, get τ (.r i) = get acc (.r i)) ∧ (∀ i, get τ (.b i) = get acc (.b i)) ∧ ∀ t x, get τ (.t t) = .av x → get acc (.t t) = .av x ∨ get σ0 (.t t) = .av x
  | [], acc, h => ⟨acc, h, fun _ => rfl, fun _ => rfl, fun _ _ h => .inl h⟩
  | t :: ts, acc, h => by
    unfold pruneK at h
    rw [lookupK_eq] at h
    split at h
    · rename_i x hx
      obtain ⟨τ, h1, h2, h3, h4⟩ := pruneK_some ts _ h
      refine ⟨τ, h1, fun i => (h2 i).trans (get_other (by simp) _ _), fun i => (h3 i).trans (get_other (by simp) _ _), fun t' y hy => ?_⟩
      rcases h4 t' y hy with h' | h'
      · rw [get_cons] at h'
        split at h'
        · rename_i e
          injection e with e
          subst e
          right; rw [hx]; exact h'
        · exact .inl h'
      · exact .inr h'
    · exact pruneK_some ts acc h
/-- The state behind a region: slots that live. -/
theorem tail_some {R : Type} {F : Fr} {σ : St} {keep : List Nat} {k : St → Option R} {r : R} (h : (memK σ [] fun m => pruneK σ keep m k) = some r) : ∃ τ, k τ = some r ∧ ∀ a w g, Sat F σ a w g → Sat F τ a w g := by
  rw [memK_eq] at h
  simp only [List.append_nil] at h
  have e : push (σ.filter isMem).reverse [] = σ.filter isMem := push_rev _
  rw [e] at h
  obtain ⟨τ, h1, h2, h3, h4⟩ := pruneK_some keep _ h
  refine ⟨τ, h1, fun a w g hs => hs.weaken (fun t x hx => ?_) (fun i => (h2 i).trans (get_filter σ _ fun _ => rfl)) fun i => (h3 i).trans (get_filter σ _ fun _ => rfl)⟩
  rcases h4 t x hx with h | h
  · rw [get_filter_t] at h; cases h
  · exact h
/-- A region. -/
theorem region_ok {P : Program} {cx : Cx} {F : Fr} {fi : FnI} (htab : TabOk P cx) (hΦ : Sound P cx.ek cx.Φ) (hF : F.ek = cx.ek) (hnt : fi.nt = F.nt) (hmix : P.follows .mixedOrders = true) {R : Type} {id : Nat} {ops : Array Oper} {draw : Bool} {σ : St} {k : St → Option R} {r : R} {a : Act} {w : World} {g : Gm}
    (h : regionK cx fi id ops draw σ k = some r) (hs : Sat F σ a w g) {Q : Exit → Act → World → Prop} (hQ : ∀ τ a' w' g', k τ = some r → Sat F τ a' w' g' → Q .normal a' w') : (Code.region id ops draw).wp P Q a w := by
  unfold regionK at h
  rw [hnt] at h
  cases draw with
  | false =>
    refine wp_region_list (opsK_seq htab hΦ hF (fun σ' log' a' w' g' hk hs' => ?_) ops.toList 0 σ [] a w g h hs)
    obtain ⟨τ, h1, h2⟩ := tail_some (F := F) hk
    exact hQ τ a' w' g' h1 (h2 a' w' g' hs')
  | true =>
    obtain ⟨its, σ', e1, e2, e3⟩ := opsK_items ops.toList 0 σ [] h
    dsimp only at e3
    · split at e3
      · rename_i hchk
        simp only [Bool.and_eq_true] at hchk
        obtain ⟨hedge, hind⟩ := hchk
        simp only [List.append_nil, List.reverse_reverse] at hind
        obtain ⟨τ, h1, h2⟩ := tail_some (F := F) e3
        have hlen : its.length = ops.size := by
          have := congrArg List.length e1
          simpa using this
        have hget : ∀ (j : Nat) x, its[j]? = some x → x.p = j ∧ ops[j]? = some x.o := fun j x hx => by
          have h' : (its.map fun x => (x.p, x.o))[j]? = some (x.p, x.o) := by simp [hx]
          rw [e1] at h'
          simp only [List.getElem?_map, List.getElem?_zipIdx, Option.map_map, Option.map_eq_some_iff] at h'
          obtain ⟨o', ho', he'⟩ := h'
          simp only [Function.comp, Prod.mk.injEq] at he'
          obtain ⟨e4, e5⟩ := he'
          subst e5
          refine ⟨by omega, ?_⟩
          simpa using ho'
        have hA : AncOk ops (fun j k => hasB ((ancs ops.toList []).getD j 0) k = true) := ⟨fun j o hj e he hb => by
            have := edgesOk_ok ops.toList 0 hedge j o (by simpa using hj) e he hb
            omega, fun j o hj k hk => by
            have := ancs_ok ops.toList [] (fun j o hj e he hb => by have := edgesOk_ok ops.toList 0 hedge j o hj e he hb; simpa using this) j o (by simpa using hj) k (by simpa using hk)
            exact this⟩
        refine wp_region_any hmix ?_
        have hsd : Sat F σ a { w with drawn := w.drawn + 1 } g := hs.world (Chg.drew (fun _ => False) w) fun _ _ hx => hx.elim
        rw [← hlen]
        refine any_ok htab hΦ hF hA (H := get σ') (fun σ2 a' w' g' hg hs2 => hQ τ a' w' g' h1 (h2 a' w' g' (hs2.ext fun l => by rw [hg]))) its.length its _ σ a _ g rfl (by simp [hlen]) ?_ ?_ ?_ ?_ ?_ e2 hsd
        · intro p hp
          constructor
          · intro _
            have hlt : p < its.length := by omega
            exact ⟨its[p], List.getElem_mem hlt, (hget p _ (List.getElem?_eq_getElem hlt)).1⟩
          · intro _
            simp [hlen, hp]
        · intro x hx
          obtain ⟨j, hj, rfl⟩ := List.getElem_of_mem hx
          obtain ⟨h3, h4⟩ := hget j _ (List.getElem?_eq_getElem hj)
          rw [h3]; exact h4
        · rw [List.pairwise_iff_getElem]
          intro i j hi hj hij
          have := (hget i _ (List.getElem?_eq_getElem hi)).1
          have := (hget j _ (List.getElem?_eq_getElem hj)).1
          omega
        · rw [List.pairwise_iff_getElem]
          intro i j hi hj hij
          have p1 := (hget i _ (List.getElem?_eq_getElem hi)).1
          have p2 := (hget j _ (List.getElem?_eq_getElem hj)).1
          have := indepB_ok _ [] 0 rfl hind i j (its[i].rs.reverse, keys its[i].ws) (its[j].rs.reverse, keys its[j].ws) hij (by simp [hi]) (by simp [hj]) (Nat.zero_le _)
          rw [p1, p2]
          refine this.imp (fun h => h) fun ⟨d1, d2, d3⟩ => ⟨fun l hl hr => disj_ok d1 l hl (by simpa using hr), fun l hl => disj_ok d2 l hl, fun l hl => disj_ok d3 l (by simpa using hl)⟩
        · intro j hj
          exfalso
          by_cases hlt : j < ops.size
          · simp [hlen, hlt] at hj
          · simp [hlen, hlt] at hj
      · cases e3
end Vx
