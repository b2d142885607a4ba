/- What functions come to, and that they do so; conditions: those that each theorem states. -/
import Derived.Test.YtbolcmcjniiieaaKdM1G
set_option linter.unusedVariables false
set_option linter.unusedSimpArgs false
namespace Go.Proofs.Ytbolcmcjniiieaa.V
open Go Vx Vx.N
/-! ### What solvers say, and blocks that are known -/
theorem lenE_wf {es : List Eqn} (h : es.length ≤ maxLen) (h2 : ∀ e ∈ es, e.1.length ≤ maxLen ∧ e.2.size ≤ maxLen) : (lenOk es.length && es.all lenE) = true := by
  simp only [Bool.and_eq_true, List.all_eq_true]
  exact ⟨decide_eq_true h, fun e he => by
    have := h2 e he
    simp only [lenE, Bool.and_eq_true]
    exact ⟨decide_eq_true this.1, decide_eq_true this.2⟩⟩
theorem says_t {c z : Int} {es : List Eqn} {row : List Int} {d : ByteArray} (hS : SolverP c z es) (hr : RowP row c) (h : red es (row, zerosB z.toNat) = ([], d)) : saysE c z es row = (d, true) := by
  have h' : redE es row (zerosB z.toNat) = ([], d) := h
  rw [saysE_yes hS hr, h', if_pos rfl]
theorem says_f {c z : Int} {es : List Eqn} {row : List Int} (h : (saysE c z es row).2 = true) : SolverP c z es ∧ RowP row c ∧ red es (row, zerosB z.toNat) = ([], (saysE c z es row).1) := by
  by_cases hc : SolverP c z es ∧ RowP row c
  · rw [saysE_yes hc.1 hc.2] at h ⊢
    by_cases h0 : (redE es row (zerosB z.toNat)).1 = []
    · rw [if_pos h0] at h ⊢
      exact ⟨hc.1, hc.2, Prod.ext h0 rfl⟩
    · rw [if_neg h0] at h; cases h
  · rw [saysE_no hc] at h; cases h
theorem eq0 {c z : Int} {row : List Int} (hz : 1 ≤ z ∧ z ≤ 16) (hr : RowP row c) : EqP c z (row, zerosB z.toNat) := ⟨hr, by show ((zerosB z.toNat).size : Int) = z; rw [zerosB_size]; omega⟩
theorem ad0 (a b : List Int) (n : Nat) : ad (a, zerosB n) (b, zerosB n) = (xorL a b, zerosB n) := Prod.ext rfl (xorB_zr _ _ (zerosB_size n))
theorem rowP_le {l : List Int} {c d : Int} (h : RowP l c) (h1 : c ≤ d) (h2 : d ≤ 24) : RowP l d := ⟨by have := h.1; omega, h2, h.2.2.1, fun x hx => by have := h.2.2.2 x hx; omega⟩
theorem rowXorR_eq {a b : List Int} {c : Int} (ha : RowP a c) (hb : RowP b c) : rowXorR a b = xorL a b := by
  unfold rowXorR
  have hc := ha.2.1
  rw [decide_eq_true ⟨rowP_le ha hc (by omega), rowP_le hb hc (by omega)⟩]
theorem says_lin {c z : Int} {es : List Eqn} {a b : List Int} (hS : SolverP c z es) (ha : RowP a c) (hb : RowP b c) : red es (xorL a b, zerosB z.toNat) = ad (red es (a, zerosB z.toNat)) (red es (b, zerosB z.toNat)) := by
  rw [← (sol_of hS).lin (eq0 hS.2.1 ha) (eq0 hS.2.1 hb), ad0]
theorem piv_own {c z : Int} {l : List Eqn} (hl : SolverP c z l) {g k : Eqn} (hg : g ∈ l) (hk : k ∈ l) (h : piv g ∈ k.1) : g = k := by
  by_cases e : g = k
  · exact e
  · exfalso
    have hs2 := (solverL_of hl).s
    obtain ⟨i, hi, rfl⟩ := List.mem_iff_getElem.1 hg
    obtain ⟨j, hj, rfl⟩ := List.mem_iff_getElem.1 hk
    rcases Nat.lt_trichotomy i j with hij | hij | hij
    · exact (List.pairwise_iff_getElem.1 hs2 i j hi hj hij).1 h
    · subst hij; exact e rfl
    · exact (List.pairwise_iff_getElem.1 hs2 j i hj hi hij).2 h
theorem getE_some {es : List Eqn} {x : Int} (h : (getE es x).2 = true) : ∃ e ∈ es, e.1 = [x] ∧ (getE es x).1 = e.2 := by
  induction es with
  | nil => cases h
  | cons e es ih =>
    rw [getE_cons] at h ⊢
    by_cases he : e.1 = [x]
    · rw [if_pos he]; exact ⟨e, List.mem_cons_self, he, rfl⟩
    · rw [if_neg he] at h ⊢
      obtain ⟨f, h1, h2⟩ := ih h
      exact ⟨f, List.mem_cons_of_mem _ h1, h2⟩
theorem getE_mem_iff {es : List Eqn} {x : Int} : (getE es x).2 = true ↔ ∃ e ∈ es, e.1 = [x] := by
  constructor
  · intro h; obtain ⟨e, h1, h2, _⟩ := getE_some h; exact ⟨e, h1, h2⟩
  · rintro ⟨e, he, h1⟩
    induction es with
    | nil => cases he
    | cons f es ih =>
      rw [getE_cons]
      split
      · rfl
      · rcases List.mem_cons.1 he with rfl | he
        · contradiction
        · exact ih he
theorem unit_row {c x : Int} (h : 0 ≤ x ∧ x < c) (hc : c ≤ 24) : RowP [x] c := ⟨by omega, hc, List.pairwise_singleton _ _, fun y hy => by rw [List.mem_singleton.1 hy]; exact h⟩
theorem zr_xorB (t : ByteArray) (n : Nat) (h : t.size = n) : xorB (zerosB n) t = t := by
  rw [xorB_self_comm (by rw [zerosB_size, h]), xorB_zr _ _ h]
/-- A block is known exactly if it is implied. -/
theorem unit_says {c z : Int} {es : List Eqn} (hS : SolverP c z es) {x : Int} (hx : 0 ≤ x ∧ x < c) : (saysE c z es [x]).2 = (getE es x).2 ∧ ((getE es x).2 = true → (saysE c z es [x]).1 = (getE es x).1) := by
  have A := sol_of hS
  have hr := unit_row hx hS.1.2
  have hv := eq0 hS.2.1 hr
  cases hg : (getE es x).2 with
  | true =>
    obtain ⟨e, he, h1, h2⟩ := getE_some hg
    have hm := A.mm e he
    have hsz : e.2.size = z.toNat := by have := hm.t; omega
    have e1 : ad ([x], zerosB z.toNat) e = ([], e.2) := by
      refine Prod.ext ?_ (zr_xorB _ _ hsz)
      show xorL [x] e.1 = []
      rw [h1, xorL_cons, if_neg (by omega), if_neg (by omega), xorL_nil_left]
    have : red es ([x], zerosB z.toNat) = ([], e.2) := by
      rw [← red_ad_mem A.e he hv, e1]
      exact red_id fun f _ hf => by cases hf
    rw [says_t hS hr this]
    exact ⟨rfl, fun _ => h2.symm⟩
  | false =>
    refine ⟨?_, fun h => by cases h⟩
    cases hs : (saysE c z es [x]).2 with
    | false => rfl
    | true =>
      exfalso
      obtain ⟨_, _, h3⟩ := says_f hs
      have hrd := red_ok A.e hv
      have hsp := A.diff hv
      have hrow : ∀ y, y ∈ (ad ([x], zerosB z.toNat) (red es ([x], zerosB z.toNat))).1 ↔ y = x := fun y => by
        rw [ad_mem hv hrd, h3]; simp
      have hne : (ad ([x], zerosB z.toNat) (red es ([x], zerosB z.toNat))).1 ≠ [] := fun e => by
        have := (hrow x).2 rfl
        rw [e] at this; cases this
      have hu := hv.ad hrd
      obtain ⟨f, hf, hp⟩ := A.pivot hu hsp hne
      have hpx : piv f = x := by rw [hp]; exact (hrow _).1 (mem_of_piv hne)
      have hfm := A.e.m f hf
      have hs2 := hsp.sum A.hc A.hz A.mm (.mem A.hc A.hz A.mm hf)
      have hu2 := hu.ad hfm.1
      have hmem := ad_mem hu hfm.1
      refine absurd (getE_mem_iff.2 ⟨f, hf, ?_⟩) (by rw [hg]; simp)
      by_cases hn2 : (ad (ad ([x], zerosB z.toNat) (red es ([x], zerosB z.toNat))) f).1 = []
      · refine asc_ext hfm.1.r.2.2.1 (List.pairwise_singleton _ _) fun y => ?_
        have : y ∉ (ad (ad ([x], zerosB z.toNat) (red es ([x], zerosB z.toNat))) f).1 := by rw [hn2]; simp
        rw [hmem, hrow] at this
        rw [List.mem_singleton]
        exact (Decidable.not_not.1 this).symm
      · exfalso
        obtain ⟨g, hgm, hgp⟩ := A.pivot hu2 hs2 hn2
        have h5 := (hmem _).1 (mem_of_piv hn2)
        rw [← hgp, hrow] at h5
        by_cases hgx : piv g = x
        · exact h5 ⟨fun _ => by rw [hgx, ← hpx]; exact mem_of_piv hfm.2, fun _ => hgx⟩
        · have hin : piv g ∈ f.1 := by
            by_cases h6 : piv g ∈ f.1
            · exact h6
            · exact absurd ⟨fun h => absurd h hgx, fun h => absurd h h6⟩ h5
          have := piv_own hS hgm hf hin
          exact hgx (by rw [this, hpx])
/-! how many of the first blocks are known -/
theorem preN_spec (es : List Eqn) : ∀ (k n : Nat), n ≤ preN es k n ∧ preN es k n ≤ n + k ∧ (∀ m, n ≤ m → m < preN es k n → (getE es (m : Nat)).2 = true) ∧ (preN es k n < n + k → (getE es (preN es k n : Nat)).2 = false) := by
  intro k
  induction k with
  | zero => exact fun n => ⟨Nat.le_refl _, Nat.le_refl _, fun m h1 h2 => by have : m < n := h2; omega, fun h => by have : n < n := h; omega⟩
  | succ k ih =>
    intro n
    cases hg : (getE es (n : Nat)).2 with
    | true =>
      rw [preN_step hg]
      obtain ⟨h1, h2, h3, h4⟩ := ih (n + 1)
      refine ⟨by omega, by omega, fun m hm1 hm2 => ?_, fun h => h4 (by omega)⟩
      by_cases e : m = n
      · rw [e]; exact hg
      · exact h3 m (by omega) hm2
    | false =>
      rw [preN_stop hg]
      exact ⟨Nat.le_refl _, by omega, fun m h1 h2 => by omega, fun _ => hg⟩
theorem range_asc (n : Nat) : ((List.range n).map fun j : Nat => (j : Int)).Pairwise (· < ·) := by
  rw [List.pairwise_map]
  exact List.pairwise_lt_range.imp fun h => by omega
theorem asc_covers {l : List Int} (ha : l.Pairwise (· < ·)) {n : Nat} (h : ∀ j : Nat, j < n → (j : Int) ∈ l) (h0 : ∀ x ∈ l, 0 ≤ x) : n ≤ l.length := by
  have e : l.filter (fun x : Int => decide (x < (n : Int))) = (List.range n).map fun j : Nat => (j : Int) := by
    refine asc_ext (ha.filter _) (range_asc n) fun x => ?_
    simp only [List.mem_filter, decide_eq_true_eq, List.mem_map, List.mem_range]
    constructor
    · rintro ⟨h1, h2⟩
      have := h0 x h1
      exact ⟨x.toNat, by omega, by omega⟩
    · rintro ⟨j, hj, rfl⟩
      exact ⟨h j hj, by omega⟩
  have := congrArg List.length e
  rw [List.length_map, List.length_range] at this
  rw [← this]
  exact List.length_filter_le _ _
theorem asc_full {l : List Int} (ha : l.Pairwise (· < ·)) {c : Nat} (h0 : ∀ x ∈ l, 0 ≤ x ∧ x < c) (hl : l.length = c) : ∀ j : Nat, j < c → (j : Int) ∈ l := by
  have e : l = ((List.range c).filter fun j : Nat => decide ((j : Int) ∈ l)).map fun j : Nat => (j : Int) := by
    refine asc_ext ha ?_ fun x => ?_
    · rw [List.pairwise_map]
      exact (List.pairwise_lt_range.filter _).imp fun h => by omega
    · simp only [List.mem_map, List.mem_filter, List.mem_range, decide_eq_true_eq]
      constructor
      · intro hx
        have := h0 x hx
        exact ⟨x.toNat, ⟨by omega, by rw [Int.toNat_of_nonneg this.1]; exact hx⟩, by omega⟩
      · rintro ⟨j, ⟨_, h2⟩, rfl⟩; exact h2
  have hlen := congrArg List.length e
  rw [List.length_map, hl] at hlen
  have hall := List.length_filter_eq_length_iff.1 (hlen.symm.trans List.length_range.symm)
  intro j hj
  have := hall j (List.mem_range.2 hj)
  simpa using this
theorem pref_ok {c z : Int} {es : List Eqn} (hS : SolverP c z es) : (∀ m : Nat, m < prefE es → (getE es (m : Nat)).2 = true) ∧ (getE es (prefE es : Nat)).2 = false ∧ prefE es ≤ es.length ∧ (prefE es : Int) ≤ c ∧ ((es.length : Int) < c ∨ (prefE es : Int) = c) ∧ (es.length : Int) ≤ c := by
  obtain ⟨_, h2, h3, h4⟩ := preN_spec es 25 0
  have L := solverL_of hS
  have hpiv : ∀ x ∈ es.map piv, 0 ≤ x ∧ x < c := by
    intro x hx
    obtain ⟨f, hf, rfl⟩ := List.mem_map.1 hx
    exact (L.m f hf).1.2.2.2 _ (mem_of_piv (L.m f hf).2.1)
  have hin : ∀ m : Nat, (getE es (m : Nat)).2 = true → (m : Int) ∈ es.map piv := by
    intro m hm
    obtain ⟨e, he, h1, _⟩ := getE_some hm
    refine List.mem_map.2 ⟨e, he, ?_⟩
    show e.1.getD 0 0 = m
    rw [h1]; rfl
  have hlen : prefE es ≤ es.length := by
    have := asc_covers (asc_piv hS) (n := prefE es) (fun j hj => hin j (h3 j (Nat.zero_le _) hj)) fun x hx => (hpiv x hx).1
    rwa [List.length_map] at this
  have hlc : (es.length : Int) ≤ c := by
    have := asc_length (es.map piv) (asc_piv hS) c.toNat (fun x hx => by have := hpiv x hx; omega)
    rw [List.length_map] at this
    have := hS.1
    omega
  have hc := hS.1.2
  have hstop : (getE es (prefE es : Nat)).2 = false := h4 (by have : preN es 25 0 = prefE es := rfl; omega)
  refine ⟨fun m hm => h3 m (Nat.zero_le _) hm, hstop, hlen, by omega, ?_, hlc⟩
  by_cases hfull : (es.length : Int) = c
  · right
    have hall := asc_full (asc_piv hS) (c := es.length) (fun x hx => by have := hpiv x hx; omega) (by rw [List.length_map])
    have hunit : ∀ f ∈ es, f.1 = [piv f] := by
      intro f hf
      have hm := L.m f hf
      refine asc_ext hm.1.2.2.1 (List.pairwise_singleton _ _) fun y => ?_
      rw [List.mem_singleton]
      constructor
      · intro hy
        have hb := hm.1.2.2.2 y hy
        have := hall y.toNat (by omega)
        rw [Int.toNat_of_nonneg hb.1] at this
        obtain ⟨g, hg, hgy⟩ := List.mem_map.1 this
        have := piv_own hS hg hf (by rw [hgy]; exact hy)
        rw [← hgy, this]
      · rintro rfl; exact mem_of_piv hm.2.1
    by_cases hlt : prefE es < es.length
    · exfalso
      obtain ⟨g, hg, hgy⟩ := List.mem_map.1 (hall _ hlt)
      have := getE_mem_iff.2 ⟨g, hg, by rw [hunit g hg, hgy]⟩
      rw [hstop] at this; cases this
    · omega
  · left; omega
end Go.Proofs.Ytbolcmcjniiieaa.V
