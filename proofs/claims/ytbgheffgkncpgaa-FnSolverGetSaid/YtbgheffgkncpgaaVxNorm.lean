/- At a loop's head: the state under new numbers. Conditions: those that each theorem states. -/
import Derived.Test.YtbgheffgkncpgaaVxReg2
set_option linter.unusedVariables false
set_option linter.unusedSimpArgs false
namespace Vx
open Go Go.RowKit

theorem posOf_ok : ∀ (l : List Nat) (n i j : Nat), posOf n l i = some j → i ≤ j ∧ l[j - i]? = some n
  | [], n, i, j, h => by cases h
  | m :: l, n, i, j, h => by
    unfold posOf at h
    split at h
    · rename_i hb
      cases h
      have := Nat.eq_of_beq_eq_true hb
      subst this
      exact ⟨Nat.le_refl _, by simp⟩
    · obtain ⟨h1, h2⟩ := posOf_ok l n (i + 1) j h
      refine ⟨by omega, ?_⟩
      rw [show j - i = (j - (i + 1)) + 1 by omega, List.getElem?_cons_succ]
      exact h2
theorem nodupB_ok : ∀ (l : List Nat), nodupB l = true → ∀ (i j : Nat) n, l[i]? = some n → l[j]? = some n → i = j
  | [], _, i, j, n, hi, _ => by simp at hi
  | m :: l, h, i, j, n, hi, hj => by
    simp only [nodupB, Bool.and_eq_true, Bool.not_eq_true', List.any_eq_false] at h
    cases i with
    | zero =>
      cases j with
      | zero => rfl
      | succ j =>
        simp at hi hj
        subst hi
        exact absurd (Nat.beq_refl m) (h.1 m (List.mem_of_getElem? hj))
    | succ i =>
      cases j with
      | zero =>
        simp at hi hj
        subst hj
        exact absurd (Nat.beq_refl m) (h.1 m (List.mem_of_getElem? hi))
      | succ j =>
        have := nodupB_ok l h.2 i j n (by simpa using hi) (by simpa using hj)
        omega
theorem renR_ok {σ : St} : ∀ (is : List Nat) (j0 : Nat) (acc τ : St), renR σ is j0 acc = some τ →
    (∀ (k i : Nat), is[k]? = some i → ∃ fr d, get σ (.r i) = .row true fr d ∧ get τ (.r (j0 + k)) = .row true fr d) ∧ ∀ l, (∀ k, k < is.length → l ≠ .r (j0 + k)) → get τ l = get acc l
  | [], j0, acc, τ, h => by
    cases h
    exact ⟨fun k i hk => by simp at hk, fun _ _ => rfl⟩
  | i :: is, j0, acc, τ, h => by
    unfold renR at h
    split at h
    · rename_i fr d hd
      obtain ⟨h1, h2⟩ := renR_ok is (j0 + 1) _ τ h
      refine ⟨fun k n hk => ?_, fun l hl => ?_⟩
      · cases k with
        | zero =>
          simp at hk
          subst hk
          refine ⟨fr, d, hd, ?_⟩
          rw [h2 _ fun k _ => by intro e; injection e; omega]
          exact get_same _ _ _
        | succ k =>
          obtain ⟨fr', d', e1, e2⟩ := h1 k n (by simpa using hk)
          exact ⟨fr', d', e1, by rw [show j0 + (k + 1) = j0 + 1 + k by omega]; exact e2⟩
      · rw [h2 l fun k hk => by
          have := hl (k + 1) (by simpa using hk)
          rwa [show j0 + (k + 1) = j0 + 1 + k by omega] at this]
        exact get_other (by have := hl 0 (by simp); simpa using this) _ _
    · cases h
theorem renB_ok {σ : St} {rm : List Nat} : ∀ (bs : List Nat) (j0 : Nat) (acc τ : St), renB σ rm bs j0 acc = some τ →
    (∀ (k b : Nat), bs[k]? = some b → ∃ cs cs', get σ (.b b) = .box cs ∧ renCs σ rm cs = some cs' ∧ get τ (.b (j0 + k)) = .box cs') ∧ ∀ l, (∀ k, k < bs.length → l ≠ .b (j0 + k)) → get τ l = get acc l
  | [], j0, acc, τ, h => by
    cases h
    exact ⟨fun k i hk => by simp at hk, fun _ _ => rfl⟩
  | b :: bs, j0, acc, τ, h => by
    unfold renB at h
    split at h
    · rename_i cs hcs
      split at h
      · rename_i cs' hcs'
        obtain ⟨h1, h2⟩ := renB_ok bs (j0 + 1) _ τ h
        refine ⟨fun k n hk => ?_, fun l hl => ?_⟩
        · cases k with
          | zero =>
            simp at hk
            subst hk
            refine ⟨cs, cs', hcs, hcs', ?_⟩
            rw [h2 _ fun k _ => by intro e; injection e; omega]
            exact get_same _ _ _
          | succ k =>
            obtain ⟨cs1, cs2, e1, e2, e3⟩ := h1 k n (by simpa using hk)
            exact ⟨cs1, cs2, e1, e2, by rw [show j0 + (k + 1) = j0 + 1 + k by omega]; exact e3⟩
        · rw [h2 l fun k hk => by
            have := hl (k + 1) (by simpa using hk)
            rwa [show j0 + (k + 1) = j0 + 1 + k by omega] at this]
          exact get_other (by have := hl 0 (by simp); simpa using this) _ _
      · cases h
    · cases h
theorem renT_ok {σ : St} {rm bm : List Nat} : ∀ (ts : List Nat) (acc τ : St), renT σ rm bm ts acc = some τ →
    (∀ i, get τ (.r i) = get acc (.r i)) ∧ (∀ i, get τ (.b i) = get acc (.b i)) ∧ ∀ t x', get τ (.t t) = .av x' → get acc (.t t) = .av x' ∨ ∃ x, get σ (.t t) = .av x ∧ renA σ rm bm x = some x'
  | [], acc, τ, h => by
    cases h
    exact ⟨fun _ => rfl, fun _ => rfl, fun _ _ h => .inl h⟩
  | t :: ts, acc, τ, h => by
    unfold renT at h
    split at h
    · rename_i x hx
      split at h
      · rename_i x' hx'
        obtain ⟨h1, h2, h3⟩ := renT_ok ts _ τ h
        refine ⟨fun i => (h1 i).trans (get_other (by simp) _ _), fun i => (h2 i).trans (get_other (by simp) _ _), fun t' y hy => ?_⟩
        rcases h3 t' y hy with h' | h'
        · rw [get_cons] at h'
          split at h'
          · rename_i e
            injection e with e
            subst e
            cases h'
            exact .inr ⟨x, hx, hx'⟩
          · exact .inl h'
        · exact .inr h'
      · exact renT_ok ts acc τ h
    · exact renT_ok ts acc τ h
theorem preB_ok : ∀ (n i : Nat) (bs : List Nat), preB n i bs = true → ∀ k, k < n → bs[k]? = some (i + k)
  | 0, i, bs, _, k, hk => by omega
  | n + 1, i, [], h, _, _ => by cases h
  | n + 1, i, b :: bs, h, k, hk => by
    simp only [preB, Bool.and_eq_true] at h
    have hb := Nat.eq_of_beq_eq_true h.1
    cases k with
    | zero => simp [hb]
    | succ k =>
      rw [List.getElem?_cons_succ, preB_ok n (i + 1) bs h.2 k (by omega)]
      congr 1; omega
section
variable {F : Fr} {σ : St} {a : Act} {w : World} {g : Gm}
def renG (g : Gm) (rm bm : List Nat) : Gm := { rv := fun j => g.rv (rm.getD j 0), wd := fun j => g.wd (rm.getD j 0), ln := fun j => g.ln (rm.getD j 0), bb := fun j => g.bb (bm.getD j 0), G := g.G, dr := fun j => j < rm.length, db := fun j => j < bm.length }
theorem getD_of {l : List Nat} {j n : Nat} (h : l[j]? = some n) : l.getD j 0 = n := by simp [List.getD_eq_getElem?_getD, h]
theorem renC_ok (h : Sat F σ a w g) {rm bm : List Nat} {c c' : Cell} {u : Value} (hu : CellRep g F.base w u c) (hr : renC σ rm c = some c') : CellRep (renG g rm bm) F.base w u c' := by
  unfold renC at hr
  split at hr
  · cases hr; exact hu
  · cases hr; exact hu
  · rename_i i
    obtain ⟨h1, rfl⟩ := hu
    split at hr
    · split at hr
      · rename_i j hj
        cases hr
        obtain ⟨_, hp⟩ := posOf_ok _ _ _ _ hj
        simp only [Nat.sub_zero] at hp
        exact ⟨(List.getElem?_eq_some_iff.1 hp).1, congrArg g.rv (getD_of hp).symm⟩
      · cases hr
    · rename_i fr d hd
      cases hr
      exact (h.row i false fr d hd).2.2
    · cases hr
theorem renCs_ok (h : Sat F σ a w g) {rm bm : List Nat} : ∀ {cs cs' : List Cell} {us : List Value} (_ : All2 (CellRep g F.base w) us cs) (_ : renCs σ rm cs = some cs'), All2 (CellRep (renG g rm bm) F.base w) us cs'
  | [], _, _, .nil, hr => by cases hr; exact .nil
  | c :: cs, _, _, .cons hu hus, hr => by
    unfold renCs at hr
    split at hr
    · rename_i c' hc
      split at hr
      · rename_i cs' hcs
        cases hr
        exact .cons (renC_ok h hu hc) (renCs_ok h hus hcs)
      · cases hr
    · cases hr
theorem renA_ok (h : Sat F σ a w g) {rm bm : List Nat} {x x' : AV} {u : Value} (hu : AVRep g F.base w u x) (hr : renA σ rm bm x = some x') : AVRep (renG g rm bm) F.base w u x' := by
  unfold renA at hr
  split at hr
  · split at hr
    · rename_i c' hc
      cases hr
      exact renC_ok (c := _) h hu hc
    · cases hr
  · split at hr
    · rename_i c' hc
      cases hr
      obtain ⟨us, e, hall⟩ := hu
      exact ⟨us, e, renCs_ok h hall hc⟩
    · cases hr
  · split at hr
    · rename_i j hj
      cases hr
      obtain ⟨_, hp⟩ := posOf_ok _ _ _ _ hj
      simp only [Nat.sub_zero] at hp
      refine ⟨(List.getElem?_eq_some_iff.1 hp).1, ?_⟩
      rw [hu.2]
      show _ = Value.pointer (some ⟨g.bb (bm.getD j 0), _, none⟩)
      rw [getD_of hp]
    · cases hr
  · cases hr
theorem norm_ok (h : Sat F σ a w g) {live : List Nat} {p : List Nat × List Nat} {τ : St} (hr : normWith σ live F.pb.length p = some τ) : ∃ g', Sat F τ a w g' := by
  obtain ⟨rm, bm⟩ := p
  unfold normWith at hr
  split at hr
  · rename_i hn
    simp only [Bool.and_eq_true] at hn
    obtain ⟨hn1, hn2, hn3⟩ := hn
    split at hr
    · rename_i m hm
      split at hr
      · rename_i m' hm'
        obtain ⟨r1, r2⟩ := renR_ok rm 0 [] m hm
        obtain ⟨b1, b2⟩ := renB_ok bm 0 m m' hm'
        obtain ⟨t1, t2, t3⟩ := renT_ok live m' τ hr
        simp only [Nat.zero_add] at r1 r2 b1 b2
        have hrow : ∀ j c, get τ (.r j) = c → c ≠ .no → ∃ i fr d, rm[j]? = some i ∧ get σ (.r i) = .row true fr d ∧ c = .row true fr d := fun j c hc hne => by
          rw [t1, b2 _ (fun _ _ => by simp)] at hc
          by_cases hlt : j < rm.length
          · obtain ⟨fr, d, e1, e2⟩ := r1 j _ (List.getElem?_eq_getElem hlt)
            exact ⟨_, fr, d, List.getElem?_eq_getElem hlt, e1, by rw [← hc, e2]⟩
          · rw [r2 _ fun k hk e => by injection e; omega] at hc
            exact absurd hc.symm hne
        have hbox : ∀ j c, get τ (.b j) = c → c ≠ .no → ∃ b cs cs', bm[j]? = some b ∧ get σ (.b b) = .box cs ∧ renCs σ rm cs = some cs' ∧ c = .box cs' := fun j c hc hne => by
          rw [t2] at hc
          by_cases hlt : j < bm.length
          · obtain ⟨cs, cs', e1, e2, e3⟩ := b1 j _ (List.getElem?_eq_getElem hlt)
            exact ⟨_, cs, cs', List.getElem?_eq_getElem hlt, e1, e2, by rw [← hc, e3]⟩
          · rw [b2 _ fun k hk e => by injection e; omega, r2 _ fun k hk e => by cases e] at hc
            exact absurd hc.symm hne
        refine ⟨renG g rm bm, h.chg, h.base, h.defs, h.nts, fun t x hx => ?_, fun j own fr d hj => ?_, fun j cs hj => ?_, fun j hj => ?_, fun j hj => ?_, h.gb, fun i j fr d fr' d' b hij hi hj hb hb' => ?_, fun b c cs cs' hbc hb hc e => ?_, fun i b fr d cs hi hb e => ?_, fun j n hj => ?_, h.ga⟩
        · rcases t3 t x hx with h' | ⟨y, hy, hy'⟩
          · rw [b2 _ (fun _ _ => by simp), r2 _ (fun _ _ => by simp)] at h'
            cases h'
          · exact renA_ok h (h.tmp t y hy) hy'
        · obtain ⟨i, fr', d', e1, e2, e3⟩ := hrow j _ hj (by simp)
          cases e3
          obtain ⟨q1, q2, q3⟩ := h.row i true fr d e2
          refine ⟨(List.getElem?_eq_some_iff.1 e1).1, ?_, ?_⟩
          · show g.wd (rm.getD j 0) = _ ∧ g.ln (rm.getD j 0) = _
            rw [getD_of e1]; exact q2
          · show (∃ e, ekOf F.ek d.kind = some e ∧ OwnRep w (PG g F.base fr) e (g.rv (rm.getD j 0)) d) ∧ ∀ b, (g.rv (rm.getD j 0)).ownBlock = some b → _
            rw [getD_of e1]; exact q3
        · obtain ⟨b, cs0, cs', e1, e2, e3, e4⟩ := hbox j _ hj (by simp)
          cases e4
          obtain ⟨q1, us, ty, q2, q3, q4, q5⟩ := h.box b cs0 e2
          refine ⟨(List.getElem?_eq_some_iff.1 e1).1, us, ty, ?_, renCs_ok h q3 e3, ?_, ?_⟩
          · show w.heap[g.bb (bm.getD j 0)]? = _
            rw [getD_of e1]; exact q2
          · show ¬ g.G (g.bb (bm.getD j 0))
            rw [getD_of e1]; exact q4
          · show F.base ≤ g.bb (bm.getD j 0) ∨ F.M (g.bb (bm.getD j 0))
            rw [getD_of e1]; exact q5
        · have hj' : j < rm.length := hj
          obtain ⟨fr, d, e1, e2⟩ := r1 j _ (List.getElem?_eq_getElem hj')
          refine ⟨by rw [t1, b2 _ (fun _ _ => by simp), e2]; simp, ?_⟩
          show ∃ A l c, g.rv (rm.getD j 0) = .slice A l c
          rw [getD_of (List.getElem?_eq_getElem hj')]
          exact (h.dr _ (h.row _ _ _ _ e1).1).2
        · have hj' : j < bm.length := hj
          obtain ⟨cs, cs', e1, e2, e3⟩ := b1 j _ (List.getElem?_eq_getElem hj')
          rw [t2, e3]; simp
        · obtain ⟨i', f1, d1, e1, e2, e3⟩ := hrow i _ hi (by simp)
          obtain ⟨j', f2, d2, e4, e5, e6⟩ := hrow j _ hj (by simp)
          have hb1 : (g.rv i').ownBlock = some b := by rw [← getD_of e1]; exact hb
          have hb2 : (g.rv j').ownBlock = some b := by rw [← getD_of e4]; exact hb'
          refine h.sepR i' j' _ _ _ _ b (fun e => hij ?_) e2 e5 hb1 hb2
          subst e
          exact nodupB_ok rm hn1 i j _ e1 e4
        · obtain ⟨b', cs1, cs2, e1, e2, e3, e4⟩ := hbox b _ hb (by simp)
          obtain ⟨c', cs3, cs4, e5, e6, e7, e8⟩ := hbox c _ hc (by simp)
          have e' : g.bb b' = g.bb c' := by rw [← getD_of e1, ← getD_of e5]; exact e
          refine h.sepB b' c' _ _ (fun e0 => hbc ?_) e2 e6 e'
          subst e0
          exact nodupB_ok bm hn2 b c _ e1 e5
        · obtain ⟨i', f1, d1, e1, e2, e3⟩ := hrow i _ hi (by simp)
          obtain ⟨b', cs1, cs2, e4, e5, e6, e7⟩ := hbox b _ hb (by simp)
          refine h.sepRB i' b' _ _ _ e2 e5 ?_
          rw [← getD_of e1, ← getD_of e4]; exact e
        · have hlt := (List.getElem?_eq_some_iff.1 hj).1
          have hp := preB_ok _ 0 bm hn3 j hlt
          rw [Nat.zero_add] at hp
          refine ⟨(List.getElem?_eq_some_iff.1 hp).1, ?_⟩
          show g.bb (bm.getD j 0) = n
          rw [getD_of hp]
          exact (h.pb j n hj).2
      · cases hr
    · cases hr
  · cases hr
end
end Vx
