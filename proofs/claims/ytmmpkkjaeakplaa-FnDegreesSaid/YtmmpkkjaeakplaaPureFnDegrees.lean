/- The statement FnDegrees over numbers and lists alone: its function answers true. Conditions: those of its statement. -/
import Derived.Test.YtmmpkkjaeakplaaXx2
import Derived.Test.YtmmpkkjaeakplaaXx8
import Derived.Test.YtmmpkkjaeakplaaXx9
import Derived.Test.YtmmpkkjaeakplaaXx24
import Derived.Test.YtmmpkkjaeakplaaXx26
import Derived.Test.YtmmpkkjaeakplaaXx27
import Derived.Test.YtmmpkkjaeakplaaXx28
import Derived.Test.YtmmpkkjaeakplaaQDeg
import Derived.Test.YtmmpkkjaeakplaaQWhS
import Derived.Test.YtmmpkkjaeakplaaQDraw
set_option linter.unusedVariables false
set_option linter.unusedSimpArgs false
namespace Go.Proofs.Ytmmpkkjaeakplaa.Pure
open Go.Proofs.Ytmmpkkjaeakplaa.X
open Go.RowKit Go.Proofs.YtmmpkkjaeakplaaW.PrintWords Go.Proofs.YtmmpkkjaeakplaaW.PrintLast Go.Proofs.YtmmpkkjaeakplaaW.PrintMore

theorem degs_loop (c p : Int) (L : List Int) (e : Nat) (hc : (L.length : Int) = c) (hc' : c ≤ 24) (h4 : ∀ x ∈ L, 0 ≤ x ∧ x ≤ 65536) (h5 : sumL L = 65536) (he : e < L.length) (hsh : sumL (L.take e) ≤ p ∧ p < sumL (L.take e) + L[e]) (d : Nat) :
    ∀ (k i : Nat), L.length - i = d → i ≤ L.length → d < k → laws_FnDegrees.l0 k c p L ((e + 1 : Nat) : Int) (sumL (L.take i)) (sumL (L.take (min i e))) i = some true := by
  induction d with
  | zero =>
    intro k i hd hi hk
    obtain ⟨k, rfl, _⟩ := pos_of hk
    have ei : i = L.length := by omega
    subst ei
    have hsle : 0 ≤ sumL (L.take e) := sumL_nonneg (fun x hx => (h4 x (List.mem_of_mem_take hx)).1)
    have hpm : sumL (L.take e) ≤ 65536 := by
      have e1 : sumL L = sumL (L.take e) + sumL (L.drop e) := by rw [← sumL_append, List.take_append_drop]
      have := sumL_nonneg (L := L.drop e) (fun x hx => (h4 x (List.mem_of_mem_drop hx)).1)
      omega
    have hxe := h4 L[e] (List.getElem_mem he)
    simp only [laws_FnDegrees.l0]
    rw [if_neg (by omega), List.take_of_length_le (Nat.le_refl _), if_pos h5, if_pos hc, laws_whIn.eq, Option.bind_some, if_pos (by simp; omega), Nat.min_eq_right (by omega), if_pos (by omega), w64p (i := e + 1) (by omega) (by omega), Nat.add_sub_cancel, if_pos (by omega), if_pos (by omega), rd_lt he, w64 (by omega) (by omega)]
    congr 1
    exact decide_eq_true hsh.2
  | succ d ih =>
    intro k i hd hi hk
    obtain ⟨k, rfl, hk'⟩ := pos_of hk
    have hlt : i < L.length := by omega
    have h0 := h4 L[i] (List.getElem_mem hlt)
    have bd : ∀ j, 0 ≤ sumL (L.take j) ∧ sumL (L.take j) ≤ 65536 := fun j => by
      have e1 : sumL L = sumL (L.take j) + sumL (L.drop j) := by rw [← sumL_append, List.take_append_drop]
      have h6 := sumL_nonneg (L := L.drop j) (fun x hx => (h4 x (List.mem_of_mem_drop hx)).1)
      have h7 := sumL_nonneg (L := L.take j) (fun x hx => (h4 x (List.mem_of_mem_take hx)).1)
      omega
    have b1 := bd i
    have b2 := bd (min i e)
    have nx := ih k (i + 1) (by omega) (by omega) (by omega)
    have e1 : sumL (L.take (i + 1)) = sumL (L.take i) + L[i] := by rw [List.take_succ_eq_append_getElem hlt, sumL_append, sumL_cons, sumL_nil]; omega
    simp only [laws_FnDegrees.l0]
    rw [if_pos (by omega), if_pos (by omega), rd_lt hlt, if_neg (by omega), w64n (by omega), w64 (x := sumL (L.take i) + L[i]) (by omega) (by omega), ← e1]
    by_cases h : i < e
    · rw [if_pos (by omega), Nat.min_eq_left (by omega), w64 (by omega) (by omega), ← e1]
      rw [Nat.min_eq_left (by omega)] at nx
      exact nx
    · rw [if_neg (by omega), Nat.min_eq_right (by omega)]
      rw [Nat.min_eq_right (by omega)] at nx
      exact nx
theorem FnDegrees : laws_FnDegrees.Pure := by
  intro l _ _ hw
  refine ⟨100, ?_⟩
  unfold laws_FnDegrees.f
  by_cases h : (l.length : Int) > 1048576
  · rw [if_pos h]
  rw [if_neg h]
  have hb := Bytes.open hw
  obtain ⟨v1, e1, a1, b1⟩ := draws _ hb 0 27 (by omega) (by omega) (by decide) 100 (by decide)
  obtain ⟨v2, e2, a2, b2⟩ := draws _ hb (0 + 1) 256 (by omega) (by omega) (by decide) 100 (by decide)
  obtain ⟨v3, e3, a3, b3⟩ := draws _ hb (0 + 1 + 1) 14 (by omega) (by omega) (by decide) 100 (by decide)
  have e0 : ∃ p, spec_DrawDegreeOf.f 100 l = some (v1, p) ∧ -1 ≤ p ∧ p ≤ 65536 := by
    unfold spec_DrawDegreeOf.f
    simp only [spec_l1Open.eq, e1, e2, e3, Option.bind_some]
    rw [w64 (x := v3 * 5) (by omega) (by omega), Int.tdiv_eq_ediv_of_nonneg (by omega), w64 (x := v3 * 5 / 14) (by omega) (by omega), w64 (x := v2 * 257) (by omega) (by omega)]
    rw [if_pos (by omega), if_pos (by simp; omega)]
    refine ⟨_, rfl, ?_⟩
    obtain ⟨x, hx, e⟩ := rd_ok (l := [v2 * 257, 65535, 65536, -1, 0]) (i := v3 * 5 / 14) (by omega) (by simp; omega)
    rw [e]
    simp at hx
    omega
  obtain ⟨p, e0, p0, p1⟩ := e0
  rw [e0, Option.bind_some]
  by_cases hc : 1 ≤ v1 ∧ v1 ≤ 24
  · obtain ⟨L, h1, h2, h3, h4, h5⟩ := deg_at v1 hc
    have m1 : impl_Degrees.f 100 v1 = some L := at_rounds (g := fun k => impl_Degrees.f k v1) (fun k => impl_Degrees.mono v1 k) (show 40 ≤ 100 by decide) h1
    have m2 : spec_Degrees.f 100 v1 = some L := at_rounds (g := fun k => spec_Degrees.f k v1) (fun k => spec_Degrees.mono v1 k) (show 40 ≤ 100 by decide) h2
    simp only [m1, m2, Option.bind_some, laws_whInts.eq L L (by omega) 100 (by omega), decide_true, if_true]
    by_cases hp : 0 ≤ p ∧ p ≤ 65535
    · obtain ⟨d1, d2⟩ := degOf_both v1 p hc hp L h1 h2 h3 h4 h5 100 (by decide)
      rw [d1, d2, Option.bind_some, Option.bind_some]
      simp only [laws_FnDegrees.j0]
      rw [if_neg (by simp), if_neg (by omega), if_neg (by omega), decide_eq_false (by omega)]
      simp only [laws_FnDegrees.j1]
      rw [if_neg (by simp)]
      have hlt := degI_lt L p hp.1 (by omega)
      have := degs_loop v1 p L (degI L p) h3 hc.2 h4 h5 hlt (degI_share L p hp.1 hlt) L.length 98 0 (by omega) (by omega) (by omega)
      simpa [sumL_nil] using this
    · have d1 : impl_DegreeOf.f 100 v1 p = some 0 := by
        unfold impl_DegreeOf.f
        rw [impl_within.eq, Option.bind_some, if_neg (by simpa using hp)]
      have d2 : spec_DegreeOf.f 100 v1 p = some 0 := by
        unfold spec_DegreeOf.f
        rw [spec_l1In.eq, Option.bind_some, if_pos (by simpa using hc), spec_l1In.eq, Option.bind_some, if_neg (by simpa using hp)]
      rw [d1, d2, Option.bind_some, Option.bind_some]
      simp only [laws_FnDegrees.j0]
      rw [if_neg (by simp), if_neg (by omega)]
      have fin : laws_FnDegrees.j1 99 v1 p L 0 true = some true := by simp only [laws_FnDegrees.j1]; rfl
      by_cases hp2 : p < 0
      · rw [if_pos hp2, fin]
      · rw [if_neg hp2, decide_eq_true (by omega), fin]
  · have m1 : impl_Degrees.f 100 v1 = some [] := by
      unfold impl_Degrees.f
      rw [Option.bind_some, impl_within.eq, Option.bind_some, if_neg (by simpa using hc)]
    have m2 : spec_Degrees.f 100 v1 = some [] := by
      unfold spec_Degrees.f
      rw [spec_l1In.eq, Option.bind_some, if_neg (by simpa using hc)]
    have d1 : impl_DegreeOf.f 100 v1 p = some 0 := by
      unfold impl_DegreeOf.f
      rw [impl_within.eq, Option.bind_some, m1]
      by_cases hp : 0 ≤ p ∧ p ≤ 65535
      · rw [if_pos (by simpa using hp)]
        show impl_DegreeOf.l0 (99 + 1) p 0 [] (([] : List Int).length : Int) 0 = some 0
        unfold impl_DegreeOf.l0
        rw [if_neg (by simp)]
      · rw [if_neg (by simpa using hp)]
    have d2 : spec_DegreeOf.f 100 v1 p = some 0 := by
      unfold spec_DegreeOf.f
      rw [spec_l1In.eq, Option.bind_some, if_neg (by simpa using hc)]
    simp only [m1, m2, d1, d2, Option.bind_some, laws_whInts.eq [] [] (by simp) 100 (by simp), decide_true, if_true]
    simp only [laws_FnDegrees.j0]
    rw [if_neg (by simp), if_pos (by simp)]
    simp only [laws_FnDegrees.j1]
    rfl

end Go.Proofs.Ytmmpkkjaeakplaa.Pure
