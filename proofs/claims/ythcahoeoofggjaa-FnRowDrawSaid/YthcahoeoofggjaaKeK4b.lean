/- What functions come to, and that they do so; conditions: those that each theorem states. -/
import Derived.Test.YthcahoeoofggjaaKeK4a
set_option linter.unusedVariables false
set_option linter.unusedSimpArgs false
namespace Go.Proofs.Ythcahoeoofggjaa.V
open Go Vx Vx.N
/-! ### Solvers as lists -/
def Apart (f g : Eqn) : Prop := piv f ∉ g.1 ∧ piv g ∉ f.1
structure SolverL (c z : Int) (es : List Eqn) : Prop where
  hc : 1 ≤ c ∧ c ≤ 24
  hz : 1 ≤ z ∧ z ≤ 16
  m : ∀ f ∈ es, RowP f.1 c ∧ f.1 ≠ [] ∧ (f.2.size : Int) = z
  a : (es.map piv).Pairwise (· < ·)
  s : es.Pairwise Apart
theorem solverL_of {c z : Int} {es : List Eqn} (h : SolverP c z es) : SolverL c z es := by
  refine ⟨h.1, h.2.1, fun f hf => solver_mem h hf, asc_piv h, ?_⟩
  rw [List.pairwise_iff_getElem]
  intro i j hi hj hij
  have h1 := h.2.2.2 i j hi hj (by omega)
  have h2 := h.2.2.2 j i hj hi (by omega)
  rw [getD_lt hi, getD_lt hj] at h1 h2
  exact ⟨h1, h2⟩
theorem SolverL.p {c z : Int} {es : List Eqn} (h : SolverL c z es) : SolverP c z es := by
  refine ⟨h.hc, h.hz, fun j _ hj => ?_, fun i j hi hj hij => ?_⟩
  · have hm := h.m _ (getE_mem hj)
    refine ⟨hm.1, hm.2.1, hm.2.2, fun h0 => ?_⟩
    have := List.pairwise_iff_getElem.1 h.a (j - 1) j (by rw [List.length_map]; omega) (by rw [List.length_map]; omega) (by omega)
    rw [List.getElem_map, List.getElem_map] at this
    rw [getD_lt (show j - 1 < es.length by omega), getD_lt hj]
    exact this
  · rw [getD_lt hi, getD_lt hj]
    rcases Nat.lt_or_ge i j with h1 | h1
    · exact (List.pairwise_iff_getElem.1 h.s i j hi hj h1).1
    · exact (List.pairwise_iff_getElem.1 h.s j i hj hi (by omega)).2
theorem putE_mem (e : Eqn) (l : List Eqn) (x : Eqn) : x ∈ putE e l ↔ x = e ∨ x ∈ l := by
  induction l with
  | nil => simp [putE]
  | cons f l ih =>
    rw [putE_cons]
    split
    · simp
    · rw [List.mem_cons, ih, List.mem_cons]
      constructor
      · rintro (h | h | h)
        · exact .inr (.inl h)
        · exact .inl h
        · exact .inr (.inr h)
      · rintro (h | h | h)
        · exact .inr (.inl h)
        · exact .inl h
        · exact .inr (.inr h)
theorem putE_len (e : Eqn) (l : List Eqn) : (putE e l).length = l.length + 1 := by
  induction l with
  | nil => rfl
  | cons f l ih => rw [putE_cons]; split <;> simp [ih]
theorem putE_asc (e : Eqn) (l : List Eqn) (h : (l.map piv).Pairwise (· < ·)) (hn : ∀ f ∈ l, piv f ≠ piv e) : ((putE e l).map piv).Pairwise (· < ·) := by
  induction l with
  | nil => simp [putE]
  | cons f l ih =>
    rw [List.map_cons, List.pairwise_cons] at h
    have ih' := ih h.2 fun g hg => hn g (List.mem_cons_of_mem _ hg)
    rw [putE_cons]
    split
    · rename_i hlt
      rw [List.map_cons, List.map_cons, List.pairwise_cons, List.pairwise_cons]
      refine ⟨fun x hx => ?_, h⟩
      rcases List.mem_cons.1 hx with rfl | hx
      · exact hlt
      · have := h.1 x hx; omega
    · rename_i hlt
      rw [List.map_cons, List.pairwise_cons]
      refine ⟨fun x hx => ?_, ih'⟩
      obtain ⟨g, hg, rfl⟩ := List.mem_map.1 hx
      rcases (putE_mem e l g).1 hg with rfl | hg
      · have := hn f List.mem_cons_self; omega
      · exact h.1 _ (List.mem_map.2 ⟨g, hg, rfl⟩)
theorem putE_pair {R : Eqn → Eqn → Prop} (hs : ∀ f g, R f g → R g f) (e : Eqn) (l : List Eqn) (h : l.Pairwise R) (hn : ∀ f ∈ l, R e f) : (putE e l).Pairwise R := by
  induction l with
  | nil => simp [putE]
  | cons f l ih =>
    rw [List.pairwise_cons] at h
    have ih' := ih h.2 fun g hg => hn g (List.mem_cons_of_mem _ hg)
    rw [putE_cons]
    split
    · rw [List.pairwise_cons, List.pairwise_cons]
      exact ⟨hn, h⟩
    · rw [List.pairwise_cons]
      refine ⟨fun x hx => ?_, ih'⟩
      rcases (putE_mem e l x).1 hx with rfl | hx
      · exact hs _ _ (hn f List.mem_cons_self)
      · exact h.1 x hx
theorem min_head {l : List Int} (h : l.Pairwise (· < ·)) {x : Int} (hx : x ∈ l) (hm : ∀ y ∈ l, x ≤ y) : l.getD 0 0 = x := by
  cases l with
  | nil => cases hx
  | cons y l =>
    have h1 := hm y List.mem_cons_self
    show y = x
    rcases List.mem_cons.1 hx with rfl | hx
    · rfl
    · have := (List.pairwise_cons.1 h).1 x hx; omega
theorem piv_le {f : Eqn} {c : Int} (h : RowP f.1 c) (hn : f.1 ≠ []) : ∀ y ∈ f.1, piv f ≤ y := by
  intro y hy
  have e := piv_cons hn
  have hp := h.2.2.1
  rw [e] at hp hy
  rcases List.mem_cons.1 hy with rfl | hy
  · exact Int.le_refl _
  · exact Int.le_of_lt ((List.pairwise_cons.1 hp).1 y hy)
theorem clear_piv {c : Int} {e f : Eqn} (he : RowP e.1 c) (hen : e.1 ≠ []) (hf : RowP f.1 c) (hn : f.1 ≠ []) (hp : piv f ∉ e.1) : piv (clearE e f) = piv f := by
  rw [clearE_eq]
  split
  · rename_i h
    have hx := xorL_mem f.1 e.1 hf.2.2.1 he.2.2.1
    have hlt : piv f < piv e := by
      have h1 := piv_le hf hn _ h
      have h2 : piv f ≠ piv e := fun e0 => hp (e0 ▸ mem_of_piv hen)
      omega
    refine min_head hx.2 ((hx.1 (piv f)).2 fun H => hp (H.1 (mem_of_piv hn))) fun y hy => ?_
    have := (hx.1 y).1 hy
    by_cases c1 : y ∈ f.1
    · exact piv_le hf hn y c1
    · by_cases c2 : y ∈ e.1
      · have := piv_le he hen y c2; omega
      · exact absurd ⟨fun h => absurd h c1, fun h => absurd h c2⟩ this
  · rfl
theorem clear_sub {c : Int} {e f : Eqn} (he : RowP e.1 c) (hf : RowP f.1 c) {y : Int} (h1 : y ∉ f.1) (h2 : y ∉ e.1) : y ∉ (clearE e f).1 := by
  rw [clearE_eq]
  split
  · intro hy
    have := ((xorL_mem f.1 e.1 hf.2.2.1 he.2.2.1).1 y).1 hy
    exact this ⟨fun h => absurd h h1, fun h => absurd h h2⟩
  · exact h1
theorem clear_gone {c : Int} {e f : Eqn} (he : RowP e.1 c) (hen : e.1 ≠ []) (hf : RowP f.1 c) : piv e ∉ (clearE e f).1 := by
  rw [clearE_eq]
  split
  · rename_i h
    intro hy
    exact ((xorL_mem f.1 e.1 hf.2.2.1 he.2.2.1).1 _).1 hy ⟨fun _ => mem_of_piv hen, fun _ => h⟩
  · assumption
theorem clear_row {c z : Int} {e f : Eqn} (he : RowP e.1 c) (het : (e.2.size : Int) = z) (hf : RowP f.1 c) (hft : (f.2.size : Int) = z) : RowP (clearE e f).1 c ∧ ((clearE e f).2.size : Int) = z := by
  rw [clearE_eq]
  split
  · exact ⟨xor_rows hf he, by show ((xorB f.2 e.2).size : Int) = z; rw [xorB_size _ _ (by omega)]; exact hft⟩
  · exact ⟨hf, hft⟩
/-- What is learned is in order. -/
theorem learn_ok {c z : Int} {es : List Eqn} {e : Eqn} (h : AddP c z es e) : SolverP c z (learnE es e) := by
  have hL := solverL_of h.s
  have hpiv : ∀ f ∈ es, piv (clearE e f) = piv f := fun f hf => clear_piv h.r h.n (hL.m f hf).1 (hL.m f hf).2.1 (h.p f hf)
  refine SolverL.p ⟨hL.hc, hL.hz, fun f hf => ?_, ?_, ?_⟩
  · rcases (putE_mem _ _ _).1 hf with rfl | hf
    · exact ⟨h.r, h.n, h.t⟩
    · obtain ⟨g, hg, rfl⟩ := List.mem_map.1 hf
      have hm := hL.m g hg
      have hc := clear_row h.r h.t hm.1 hm.2.2
      exact ⟨hc.1, clear_ne h.r hm.1 hm.2.1 (h.p g hg), hc.2⟩
  · refine putE_asc _ _ ?_ fun f hf => ?_
    · rw [List.map_map]
      have : es.map (piv ∘ clearE e) = es.map piv := List.map_congr_left fun f hf => hpiv f hf
      rw [this]; exact hL.a
    · obtain ⟨g, hg, rfl⟩ := List.mem_map.1 hf
      rw [hpiv g hg]
      exact fun e0 => h.p g hg (e0 ▸ mem_of_piv h.n)
  · refine putE_pair (fun f g h => ⟨h.2, h.1⟩) _ _ ?_ fun f hf => ?_
    · rw [List.pairwise_map]
      refine hL.s.imp_of_mem fun {f g} hf hg hfg => ?_
      exact ⟨by rw [hpiv f hf]; exact clear_sub h.r (hL.m g hg).1 hfg.1 (h.p f hf), by rw [hpiv g hg]; exact clear_sub h.r (hL.m f hf).1 hfg.2 (h.p g hg)⟩
    · obtain ⟨g, hg, rfl⟩ := List.mem_map.1 hf
      exact ⟨clear_gone h.r h.n (hL.m g hg).1, by rw [hpiv g hg]; exact h.p g hg⟩
theorem addP_of {c z : Int} {es : List Eqn} (hS : SolverP c z es) {row : List Int} {t : ByteArray} (hr : RowP row c) (ht : (t.size : Int) = z) (hn : (redE es row t).1 ≠ []) : AddP c z es (redE es row t) := ⟨hS, (redE_ok hS hr ht).1, hn, (redE_ok hS hr ht).2, redE_no hS hr⟩
theorem add_ok {c z : Int} {es : List Eqn} (hS : SolverP c z es) {row : List Int} {t : ByteArray} (hr : RowP row c) (ht : (t.size : Int) = z) : SolverP c z (addE z es row t).1 := by
  rw [addE_eq]
  split
  · exact hS
  · rename_i hn
    exact learn_ok (addP_of hS hr ht hn)
theorem solver_nil {c z : Int} (hc : 1 ≤ c ∧ c ≤ 24) (hz : 1 ≤ z ∧ z ≤ 16) : SolverP c z [] := ⟨hc, hz, fun j _ hj => absurd hj (Nat.not_lt_zero _), fun i j hi => absurd hi (Nat.not_lt_zero _)⟩
end Go.Proofs.Ythcahoeoofggjaa.V
