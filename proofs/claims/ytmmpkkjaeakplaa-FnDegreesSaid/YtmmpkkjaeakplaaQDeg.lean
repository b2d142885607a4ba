/- Plain facts about lists and numbers that the claim's proof uses. Conditions: those that each theorem states. -/
import Derived.Test.YtmmpkkjaeakplaaXx2
import Derived.Test.YtmmpkkjaeakplaaXx26
import Derived.Test.YtmmpkkjaeakplaaXx27
import Derived.Test.YtmmpkkjaeakplaaQM
import Derived.Test.YtmmpkkjaeakplaaQRowOk
set_option linter.unusedVariables false
set_option linter.unusedSimpArgs false
namespace Go.Proofs.Ytmmpkkjaeakplaa.X
open Go.RowKit Go.Proofs.YtmmpkkjaeakplaaW.PrintWords Go.Proofs.YtmmpkkjaeakplaaW.PrintLast Go.Proofs.YtmmpkkjaeakplaaW.PrintMore

/-- The weights of the degrees, as both compute them, at each count. -/
theorem deg_all : ∀ c : Fin 25, 1 ≤ c.1 → ∃ L : List Int, impl_Degrees.f 40 (c.1 : Int) = some L ∧ spec_Degrees.f 40 (c.1 : Int) = some L ∧ L.length = c.1 ∧ (∀ x ∈ L, 0 ≤ x) ∧ L.foldl (· + ·) 0 = 65536 := by
  have key : ∀ c : Fin 25, 1 ≤ c.1 → (match impl_Degrees.f 40 (c.1 : Int), spec_Degrees.f 40 (c.1 : Int) with | some L, some L' => decide (L = L') && decide (L.length = c.1) && L.all (fun x => decide (0 ≤ x)) && decide (L.foldl (· + ·) 0 = 65536) | _, _ => false) = true := by decide +kernel
  intro c hc
  have h := key c hc
  cases e1 : impl_Degrees.f 40 (c.1 : Int) with
  | none => rw [e1] at h; simp at h
  | some L =>
    cases e2 : spec_Degrees.f 40 (c.1 : Int) with
    | none => rw [e1, e2] at h; simp at h
    | some L' =>
      rw [e1, e2] at h
      simp only [Bool.and_eq_true, decide_eq_true_eq, List.all_eq_true] at h
      obtain ⟨⟨⟨rfl, h2⟩, h3⟩, h4⟩ := h
      exact ⟨L, rfl, rfl, h2, h3, h4⟩
def sumL (L : List Int) : Int := L.foldl (· + ·) 0
theorem foldl_add (L : List Int) : ∀ a : Int, L.foldl (· + ·) a = a + sumL L := by
  induction L with
  | nil => intro a; simp [sumL]
  | cons x L ih =>
    intro a
    have h1 := ih (a + x)
    have h2 := ih (0 + x)
    simp only [sumL, List.foldl_cons] at *
    omega
theorem sumL_cons (x : Int) (L : List Int) : sumL (x :: L) = x + sumL L := by
  have := foldl_add L (0 + x)
  simp only [sumL, List.foldl_cons] at *
  omega
theorem sumL_nil : sumL [] = 0 := rfl
theorem sumL_append (L M : List Int) : sumL (L ++ M) = sumL L + sumL M := by
  induction L with
  | nil => simp [sumL_nil]
  | cons x L ih => rw [List.cons_append, sumL_cons, sumL_cons, ih]; omega
theorem sumL_nonneg {L : List Int} (h : ∀ x ∈ L, 0 ≤ x) : 0 ≤ sumL L := by
  induction L with
  | nil => simp [sumL_nil]
  | cons x L ih =>
    have h1 := h x List.mem_cons_self
    have h2 := ih (fun y hy => h y (List.mem_cons_of_mem _ hy))
    rw [sumL_cons]
    omega
/-- How many shares lie before the part. -/
def degI : List Int → Int → Nat
  | [], _ => 0
  | x :: L, p => if p < x then 0 else degI L (p - x) + 1
theorem degI_le : ∀ (L : List Int) (p : Int), degI L p ≤ L.length
  | [], p => by simp [degI]
  | x :: L, p => by
    have := degI_le L (p - x)
    simp only [degI, List.length_cons]
    split <;> omega
theorem degI_lt : ∀ (L : List Int) (p : Int), 0 ≤ p → p < sumL L → degI L p < L.length
  | [], p, h0, h => by rw [sumL_nil] at h; omega
  | x :: L, p, h0, h => by
    rw [sumL_cons] at h
    simp only [degI, List.length_cons]
    split
    · omega
    · have := degI_lt L (p - x) (by omega) (by omega)
      omega
theorem degI_share : ∀ (L : List Int) (p : Int), 0 ≤ p → (h : degI L p < L.length) → sumL (L.take (degI L p)) ≤ p ∧ p < sumL (L.take (degI L p)) + L[degI L p]
  | [], p, h0, h => by simp [degI] at h
  | x :: L, p, h0, h => by
    by_cases hx : p < x
    · have e : degI (x :: L) p = 0 := by simp only [degI, if_pos hx]
      simp only [e, List.take_zero, sumL_nil, List.getElem_cons_zero]
      omega
    · have e : degI (x :: L) p = degI L (p - x) + 1 := by simp only [degI, if_neg hx]
      have h' : degI L (p - x) < L.length := by rw [e, List.length_cons] at h; omega
      have := degI_share L (p - x) (by omega) h'
      simp only [e, List.take_succ_cons, sumL_cons, List.getElem_cons_succ]
      omega
theorem impl_DegreeOf.from_ (L : List Int) (p : Int) (hp : 0 ≤ p ∧ p ≤ 65535) (hL : ∀ x ∈ L, 0 ≤ x) (hs : sumL L ≤ 65536) (hl : L.length ≤ 24) (d : Nat) : ∀ (k i : Nat) (s : Int), L.length - i = d → i ≤ L.length → d < k → s = sumL (L.take i) → s ≤ p →
    impl_DegreeOf.l0 k p s L (L.length : Int) i = some (if i + degI (L.drop i) (p - s) < L.length then ((i + degI (L.drop i) (p - s) + 1 : Nat) : Int) else 0) := by
  induction d with
  | zero =>
    intro k i s hd hi hk hs' hsp
    obtain ⟨k, rfl, _⟩ := pos_of hk
    simp only [impl_DegreeOf.l0]
    rw [if_neg (by omega), if_neg (by omega)]
  | succ d ih =>
    intro k i s hd hi hk hs' hsp
    obtain ⟨k, rfl, hk'⟩ := pos_of hk
    have hlt : i < L.length := by omega
    have h0 := hL L[i] (List.getElem_mem hlt)
    have hx : L[i] ≤ 65536 := by
      have e : L = L.take i ++ (L[i] :: L.drop (i + 1)) := by rw [← List.drop_eq_getElem_cons hlt, List.take_append_drop]
      have e2 : sumL L = sumL (L.take i) + (L[i] + sumL (L.drop (i + 1))) := by
        conv => lhs; rw [e]
        rw [sumL_append, sumL_cons]
      have h1 := sumL_nonneg (L := L.take i) (fun x hx => hL x (List.mem_of_mem_take hx))
      have h2 := sumL_nonneg (L := L.drop (i + 1)) (fun x hx => hL x (List.mem_of_mem_drop hx))
      omega
    have hs0 := sumL_nonneg (L := L.take i) (fun x hx => hL x (List.mem_of_mem_take hx))
    simp only [impl_DegreeOf.l0]
    rw [if_pos (by omega), if_pos (by omega), if_pos (by omega), rd_lt hlt, w64 (x := s + L[i]) (by omega) (by omega), w64n (by omega)]
    by_cases h : s + L[i] > p
    · have e : degI (L.drop i) (p - s) = 0 := by
        rw [List.drop_eq_getElem_cons hlt]
        simp only [degI]
        rw [if_pos (by omega)]
      simp only [e]
      rw [if_pos h, if_pos (by omega)]
    · have e : degI (L.drop i) (p - s) = degI (L.drop (i + 1)) (p - (s + L[i])) + 1 := by
        rw [List.drop_eq_getElem_cons hlt]
        simp only [degI]
        rw [if_neg (by omega), show p - s - L[i] = p - (s + L[i]) by omega]
      rw [if_neg h, ih k (i + 1) _ (by omega) (by omega) (by omega) (by rw [List.take_succ_eq_append_getElem hlt, sumL_append, sumL_cons, sumL_nil]; omega) (by omega)]
      simp only [e]
      rw [show i + 1 + degI (L.drop (i + 1)) (p - (s + L[i])) = i + (degI (L.drop (i + 1)) (p - (s + L[i])) + 1) by omega]
theorem spec_l4Degree.from_ (L : List Int) (hL : ∀ x ∈ L, 0 ≤ x ∧ x ≤ 65536) (hl : L.length ≤ 24) (d : Nat) : ∀ (k i : Nat) (p : Int), L.length - i = d → 1 ≤ i → i ≤ L.length → d < k → 0 ≤ p → p ≤ 65535 → p < sumL (L.drop (i - 1)) →
    spec_l4Degree.l0 k (L.length : Int) p L i = some ((i + degI (L.drop (i - 1)) p : Nat) : Int) := by
  induction d with
  | zero =>
    intro k i p hd h1 hi hk hp0 hp1 hp
    obtain ⟨k, rfl, _⟩ := pos_of hk
    have e : i = L.length := by omega
    subst e
    simp only [spec_l4Degree.l0]
    have := degI_lt (L.drop (L.length - 1)) p hp0 hp
    rw [List.length_drop] at this
    rw [if_neg (by omega), show degI (L.drop (L.length - 1)) p = 0 by omega]
    rfl
  | succ d ih =>
    intro k i p hd h1 hi hk hp0 hp1 hp
    obtain ⟨k, rfl, hk'⟩ := pos_of hk
    have hlt : i - 1 < L.length := by omega
    have h0 := hL L[i - 1] (List.getElem_mem hlt)
    simp only [spec_l4Degree.l0]
    rw [if_pos (by omega), w64p (by omega) (by omega), if_pos (by omega), if_pos (by omega), rd_lt hlt, List.drop_eq_getElem_cons hlt]
    simp only [degI]
    by_cases h : p < L[i - 1]
    · rw [if_pos h, if_pos h]
      rfl
    · rw [List.drop_eq_getElem_cons hlt, sumL_cons, show i - 1 + 1 = i by omega] at hp
      rw [if_neg h, if_neg h, w64 (by omega) (by omega), w64n (by omega), ih k (i + 1) _ (by omega) (by omega) (by omega) (by omega) (by omega) (by omega) (by rw [Nat.add_sub_cancel]; omega)]
      rw [Nat.add_sub_cancel, show i - 1 + 1 = i by omega]
      congr 2
      omega
theorem deg_at (c : Int) (hc : 1 ≤ c ∧ c ≤ 24) : ∃ L : List Int, impl_Degrees.f 40 c = some L ∧ spec_Degrees.f 40 c = some L ∧ (L.length : Int) = c ∧ (∀ x ∈ L, 0 ≤ x ∧ x ≤ 65536) ∧ sumL L = 65536 := by
  obtain ⟨L, h1, h2, h3, h4, h5⟩ := deg_all ⟨c.toNat, by omega⟩ (show 1 ≤ c.toNat by omega)
  rw [show ((c.toNat : Nat) : Int) = c by omega] at h1 h2
  refine ⟨L, h1, h2, by simp only [] at h3; omega, fun x hx => ⟨h4 x hx, ?_⟩, h5⟩
  have : x ≤ sumL L := by
    clear h1 h2 h3 h5
    induction L with
    | nil => cases hx
    | cons y L ih =>
      rw [sumL_cons]
      have h6 := sumL_nonneg (L := L) (fun z hz => h4 z (List.mem_cons_of_mem _ hz))
      rcases List.mem_cons.1 hx with rfl | hx
      · omega
      · have := ih (fun z hz => h4 z (List.mem_cons_of_mem _ hz)) hx
        have := h4 y List.mem_cons_self
        omega
  have h5' : sumL L = 65536 := h5
  omega
/-- The degree of a part: one thing for both. -/
theorem degOf_both (c p : Int) (hc : 1 ≤ c ∧ c ≤ 24) (hp : 0 ≤ p ∧ p ≤ 65535) (L : List Int) (h1 : impl_Degrees.f 40 c = some L) (h2 : spec_Degrees.f 40 c = some L) (h3 : (L.length : Int) = c) (h4 : ∀ x ∈ L, 0 ≤ x ∧ x ≤ 65536) (h5 : sumL L = 65536) (k : Nat) (hk : 40 ≤ k) :
    impl_DegreeOf.f k c p = some ((degI L p + 1 : Nat) : Int) ∧ spec_DegreeOf.f k c p = some ((degI L p + 1 : Nat) : Int) := by
  have hlt := degI_lt L p hp.1 (by omega)
  have m1 : impl_Degrees.f k c = some L := at_rounds (g := fun k => impl_Degrees.f k c) (fun k => impl_Degrees.mono c k) hk h1
  have m2 : spec_Degrees.f k c = some L := at_rounds (g := fun k => spec_Degrees.f k c) (fun k => spec_Degrees.mono c k) hk h2
  constructor
  · unfold impl_DegreeOf.f
    rw [impl_within.eq, Option.bind_some, if_pos (by simpa using hp), m1, Option.bind_some]
    have := impl_DegreeOf.from_ L p hp (fun x hx => (h4 x hx).1) (by omega) (by omega) L.length k 0 0 (by omega) (by omega) (by omega) (by simp [sumL_nil]) hp.1
    refine Eq.trans this ?_
    rw [List.drop_zero, Int.sub_zero, if_pos (by omega)]
    congr 2
    omega
  · have m3 : spec_l4Degrees.f k c = some L := by
      unfold spec_Degrees.f at m2
      rw [spec_l1In.eq, Option.bind_some, if_pos (by simpa using hc)] at m2
      cases e : spec_l4Degrees.f k c with
      | none => rw [e] at m2; cases m2
      | some L' => rw [e] at m2; exact m2
    unfold spec_DegreeOf.f
    rw [spec_l1In.eq, Option.bind_some, if_pos (by simpa using hc), spec_l1In.eq, Option.bind_some, if_pos (by simpa using hp)]
    unfold spec_l4Degree.f
    rw [m3, Option.bind_some]
    have := spec_l4Degree.from_ L h4 (by omega) (L.length - 1) k 1 p (by omega) (by omega) (by omega) (by omega) hp.1 hp.2 (by simp; omega)
    rw [h3] at this
    have e : spec_l4Degree.l0 k c p L 1 = _ := this
    rw [e, Option.bind_some]
    simp only [Nat.sub_self, List.drop_zero]
    congr 2
    omega

end Go.Proofs.Ytmmpkkjaeakplaa.X
