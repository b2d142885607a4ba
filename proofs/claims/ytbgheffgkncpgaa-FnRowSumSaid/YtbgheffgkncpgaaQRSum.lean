/- Plain facts about lists and numbers that the claim's proof uses. Conditions: those that each theorem states. -/
import Derived.Test.YtbgheffgkncpgaaXx1
import Derived.Test.YtbgheffgkncpgaaXx9
import Derived.Test.YtbgheffgkncpgaaXx10
import Derived.Test.YtbgheffgkncpgaaXx11
import Derived.Test.YtbgheffgkncpgaaQZero
import Derived.Test.YtbgheffgkncpgaaQRowOk
set_option linter.unusedVariables false
set_option linter.unusedSimpArgs false
namespace Go.Proofs.Ytbgheffgkncpgaa.X
open Go.RowKit Go.Proofs.YtbgheffgkncpgaaW.PrintWords Go.Proofs.YtbgheffgkncpgaaW.PrintLast Go.Proofs.YtbgheffgkncpgaaW.PrintMore

/-- The blocks of a row, together, on top of z. -/
def sumB (bs : List ByteArray) (row : List Int) (z : ByteArray) : ByteArray := row.foldl (fun t n => xorB t (bs.getD n.toNat ByteArray.empty)) z
theorem sumB_size (bs : List ByteArray) (s : Nat) (hs : ∀ b ∈ bs, b.size = s) : ∀ (row : List Int) (z : ByteArray), z.size = s → (∀ n ∈ row, 0 ≤ n ∧ n < bs.length) → (sumB bs row z).size = s
  | [], z, hz, _ => hz
  | n :: row, z, hz, h => by
    have hn := h n List.mem_cons_self
    have hb : (bs.getD n.toNat ByteArray.empty).size = s := by
      rw [List.getD_eq_getElem?_getD, List.getElem?_eq_getElem (show n.toNat < bs.length by omega)]
      exact hs _ (List.getElem_mem _)
    exact sumB_size bs s hs row _ (by rw [xorB_size _ _ (by omega)]; exact hz) (fun m hm => h m (List.mem_cons_of_mem _ hm))
theorem rdOf_get (bs : List ByteArray) (n : Int) : rdOf ByteArray.empty bs n = bs.getD n.toNat ByteArray.empty := rfl
theorem spec_l2Sum.from_ (bs : List ByteArray) (s : Nat) (hs16 : s ≤ 16) (hs : ∀ b ∈ bs, b.size = s) (row : List Int) (hrow : ∀ n ∈ row, 0 ≤ n ∧ n < bs.length) (hl : row.length < 1000000000) (d : Nat) : ∀ (k i : Nat) (z : ByteArray), row.length - i = d → i ≤ row.length → 20 + d < k → z.size = s →
    spec_l2Sum.l0 k bs row z i = some (sumB bs (row.drop i) z) := by
  induction d with
  | zero =>
    intro k i z hd hi hk hz
    obtain ⟨k, rfl, _⟩ := pos_of (show 0 < k by omega)
    simp only [spec_l2Sum.l0]
    rw [if_neg (by omega), List.drop_eq_nil_of_le (by omega)]
    rfl
  | succ d ih =>
    intro k i z hd hi hk hz
    obtain ⟨k, rfl, _⟩ := pos_of (show 0 < k by omega)
    have hlt : i < row.length := by omega
    have hn := hrow _ (List.getElem_mem hlt)
    have hb : (bs.getD row[i].toNat ByteArray.empty).size = s := by
      rw [List.getD_eq_getElem?_getD, List.getElem?_eq_getElem (show row[i].toNat < bs.length by omega)]
      exact hs _ (List.getElem_mem _)
    simp only [spec_l2Sum.l0]
    rw [if_pos (by omega), if_pos (by omega), rd_lt hlt, if_pos hn.1, if_pos hn.2, rdOf_get, spec_l2Block.eq _ _ (by omega) (by omega) k (by omega), Option.bind_some, w64n (by omega), List.drop_eq_getElem_cons hlt]
    exact ih k (i + 1) _ (by omega) (by omega) (by omega) (by rw [xorB_size _ _ (by omega)]; exact hz)
theorem impl_RowSum.from1 (bs : List ByteArray) (s : Nat) (hs16 : s ≤ 16) (hs : ∀ b ∈ bs, b.size = s) (row : List Int) (hrow : ∀ n ∈ row, 0 ≤ n ∧ n < bs.length) (hl : row.length < 1000000000) (d : Nat) : ∀ (k i : Nat) (z : ByteArray), row.length - i = d → i ≤ row.length → 20 + d < k → z.size = s →
    impl_RowSum.l1 k bs z row (row.length : Int) i = some (sumB bs (row.drop i) z, true) := by
  induction d with
  | zero =>
    intro k i z hd hi hk hz
    obtain ⟨k, rfl, _⟩ := pos_of (show 0 < k by omega)
    simp only [impl_RowSum.l1]
    rw [if_neg (by omega), List.drop_eq_nil_of_le (by omega)]
    rfl
  | succ d ih =>
    intro k i z hd hi hk hz
    obtain ⟨k, rfl, _⟩ := pos_of (show 0 < k by omega)
    have hlt : i < row.length := by omega
    have hn := hrow _ (List.getElem_mem hlt)
    have hb : (bs.getD row[i].toNat ByteArray.empty).size = s := by
      rw [List.getD_eq_getElem?_getD, List.getElem?_eq_getElem (show row[i].toNat < bs.length by omega)]
      exact hs _ (List.getElem_mem _)
    simp only [impl_RowSum.l1]
    rw [if_pos (by omega), if_pos (by omega), if_pos (by omega), rd_lt hlt, if_pos hn.1, if_pos hn.2, rdOf_get, impl_xor.eq _ _ (by omega) (by omega), Option.bind_some, w64n (by omega), List.drop_eq_getElem_cons hlt]
    exact ih k (i + 1) _ (by omega) (by omega) (by omega) (by rw [xorB_size _ _ (by omega)]; exact hz)
/-- Blocks of one size. -/
def evenB (bs : List ByteArray) : Prop := ∀ j, j < bs.length → (bs.getD j ByteArray.empty).size = (bs.getD 0 ByteArray.empty).size
def evenFrom (bs : List ByteArray) (i : Nat) : Prop := ∀ j, i ≤ j → j < bs.length → (bs.getD j ByteArray.empty).size = (bs.getD 0 ByteArray.empty).size
theorem evenFrom_step {bs : List ByteArray} {i : Nat} (h : i < bs.length) : evenFrom bs i ↔ (bs.getD i ByteArray.empty).size = (bs.getD 0 ByteArray.empty).size ∧ evenFrom bs (i + 1) := by
  constructor
  · exact fun H => ⟨H i (Nat.le_refl _) h, fun j h1 h2 => H j (by omega) h2⟩
  · rintro ⟨h0, H⟩ j h1 h2
    rcases Nat.eq_or_lt_of_le h1 with rfl | h3
    · exact h0
    · exact H j h3 h2
def SumP (bs : List ByteArray) (row : List Int) : Prop := bs ≠ [] ∧ RowP row bs.length ∧ evenB bs ∧ (bs.getD 0 ByteArray.empty).size ≤ 16
open Classical in
noncomputable instance (bs : List ByteArray) (row : List Int) : Decidable (SumP bs row) := inferInstance
/-- What both row sums are. -/
noncomputable def rsum (bs : List ByteArray) (row : List Int) : ByteArray × Bool := if SumP bs row then (sumB bs row (zerosB (bs.getD 0 ByteArray.empty).size), true) else ((⟨#[]⟩ : ByteArray), false)
theorem rsum_no {bs : List ByteArray} {row : List Int} (h : ¬ SumP bs row) : rsum bs row = ((⟨#[]⟩ : ByteArray), false) := if_neg h
theorem evenB_mem {bs : List ByteArray} (h : evenB bs) : ∀ b ∈ bs, b.size = (bs.getD 0 ByteArray.empty).size := by
  intro b hb
  obtain ⟨j, hj, rfl⟩ := List.getElem_of_mem hb
  have := h j hj
  rw [List.getD_eq_getElem?_getD, List.getElem?_eq_getElem hj] at this
  exact this
theorem spec_RowSum.from_ (bs : List ByteArray) (row : List Int) (hne : 0 < bs.length) (hlb : bs.length < 1000000000) (hr : RowP row bs.length) (hl : row.length < 1000000000) (d : Nat) : ∀ (k i : Nat), bs.length - i = d → i ≤ bs.length → 40 + d + row.length < k → (∀ j, j < i → (bs.getD j ByteArray.empty).size = (bs.getD 0 ByteArray.empty).size ∧ (bs.getD 0 ByteArray.empty).size ≤ 16) →
    spec_RowSum.l0 k bs row i = some (rsum bs row) := by
  induction d with
  | zero =>
    intro k i hd hi hk hp
    obtain ⟨k, rfl, _⟩ := pos_of (show 0 < k by omega)
    have e : i = bs.length := by omega
    subst e
    have hev : evenB bs := fun j hj => (hp j hj).1
    have h16 := (hp 0 hne).2
    simp only [spec_RowSum.l0]
    rw [if_neg (by omega), if_pos (by omega), rdOf_get]
    unfold spec_l2Sum.f
    have z := spec_l1Many.zero (((bs.getD (0 : Int).toNat ByteArray.empty).size : Nat) : Int) (by omega) (by simp only [Int.toNat_zero]; omega) k (by simp only [Int.toNat_zero]; omega)
    rw [z, Option.bind_some]
    have q := spec_l2Sum.from_ bs _ h16 (evenB_mem hev) row (fun n hn => ⟨(hr.2.2.2 n hn).1, (hr.2.2.2 n hn).2⟩) hl row.length k 0 (zerosB (bs.getD 0 ByteArray.empty).size) (by omega) (by omega) (by omega) (zerosB_size _)
    rw [List.drop_zero] at q
    have q' : spec_l2Sum.l0 k bs row (zerosB ((bs.getD (0 : Int).toNat ByteArray.empty).size : Int).toNat) 0 = some (sumB bs row (zerosB (bs.getD 0 ByteArray.empty).size)) := q
    rw [q', Option.bind_some]
    unfold rsum
    rw [if_pos ⟨by intro h; rw [h] at hne; simp at hne, hr, hev, h16⟩]
  | succ d ih =>
    intro k i hd hi hk hp
    obtain ⟨k, rfl, _⟩ := pos_of (show 0 < k by omega)
    simp only [spec_RowSum.l0]
    rw [if_pos (by omega), if_pos (by omega), if_pos (by omega), rdOf_get, rdOf_get, Int.toNat_natCast, Int.toNat_zero]
    by_cases h1 : ((bs.getD i ByteArray.empty).size : Int) = ((bs.getD 0 ByteArray.empty).size : Int)
    · rw [if_pos h1]
      by_cases h2 : ((bs.getD i ByteArray.empty).size : Int) > 16
      · rw [if_pos h2, rsum_no (fun h => by have := h.2.2.2; omega)]
      · rw [if_neg h2, w64n (by omega)]
        refine ih k (i + 1) (by omega) (by omega) (by omega) (fun j hj => ?_)
        rcases Nat.lt_or_ge j i with h3 | h3
        · exact hp j h3
        · rw [show j = i by omega]
          exact ⟨by omega, by omega⟩
    · rw [if_neg h1, rsum_no (fun h => by have := h.2.2.1 i (by omega); omega)]
theorem impl_RowSum.from0 (bs : List ByteArray) (row : List Int) (hne : 0 < bs.length) (hlb : bs.length < 1000000000) (hr : RowP row bs.length) (hl : row.length < 1000000000) (h16 : (bs.getD 0 ByteArray.empty).size ≤ 16) (d : Nat) : ∀ (k i : Nat), bs.length - i = d → i ≤ bs.length → 40 + d + row.length < k → (∀ j, j < i → (bs.getD j ByteArray.empty).size = (bs.getD 0 ByteArray.empty).size) →
    impl_RowSum.l0 k bs row bs (bs.length : Int) i = some (rsum bs row) := by
  induction d with
  | zero =>
    intro k i hd hi hk hp
    obtain ⟨k, rfl, _⟩ := pos_of (show 0 < k by omega)
    have e : i = bs.length := by omega
    subst e
    have hev : evenB bs := fun j hj => hp j hj
    simp only [impl_RowSum.l0]
    rw [if_neg (by omega), if_pos (by omega), rdOf_get]
    have z := impl_zeros.eq (((bs.getD (0 : Int).toNat ByteArray.empty).size : Nat) : Int) (by omega) (by simp only [Int.toNat_zero]; omega)
    rw [z, Option.bind_some]
    have q := impl_RowSum.from1 bs _ h16 (evenB_mem hev) row (fun n hn => ⟨(hr.2.2.2 n hn).1, (hr.2.2.2 n hn).2⟩) hl row.length k 0 (zerosB (bs.getD 0 ByteArray.empty).size) (by omega) (by omega) (by omega) (zerosB_size _)
    rw [List.drop_zero] at q
    have q' : impl_RowSum.l1 k bs (zerosB ((bs.getD (0 : Int).toNat ByteArray.empty).size : Int).toNat) row (row.length : Int) 0 = some (sumB bs row (zerosB (bs.getD 0 ByteArray.empty).size), true) := q
    rw [q']
    unfold rsum
    rw [if_pos ⟨by intro h; rw [h] at hne; simp at hne, hr, hev, h16⟩]
  | succ d ih =>
    intro k i hd hi hk hp
    obtain ⟨k, rfl, _⟩ := pos_of (show 0 < k by omega)
    simp only [impl_RowSum.l0]
    rw [if_pos (by omega), if_pos (by omega), if_pos (by omega), if_pos (by omega), rdOf_get, rdOf_get, Int.toNat_natCast, Int.toNat_zero]
    by_cases h1 : ((bs.getD i ByteArray.empty).size : Int) = ((bs.getD 0 ByteArray.empty).size : Int)
    · rw [if_pos h1, w64n (by omega)]
      refine ih k (i + 1) (by omega) (by omega) (by omega) (fun j hj => ?_)
      rcases Nat.lt_or_ge j i with h3 | h3
      · exact hp j h3
      · rw [show j = i by omega]
        omega
    · rw [if_neg h1, rsum_no (fun h => by have := h.2.2.1 i (by omega); omega)]
theorem spec_RowSum.eq (bs : List ByteArray) (row : List Int) (hlb : bs.length < 1000000000) (hl : row.length < 1000000000) (k : Nat) (hk : 50 + bs.length + row.length < k) : spec_RowSum.f k bs row = some (rsum bs row) := by
  obtain ⟨k, rfl, _⟩ := pos_of (show 0 < k by omega)
  unfold spec_RowSum.f
  rw [spec_RowOk.eq row _ (by omega) _ (by omega), Option.bind_some]
  by_cases h : RowP row bs.length
  · rw [if_pos (by simpa using h)]
    simp only [spec_RowSum.j0]
    by_cases h0 : bs = []
    · rw [if_pos (by rw [h0]; rfl), rsum_no (fun H => H.1 h0)]
    · have hp := List.length_pos_iff.2 h0
      rw [if_neg (by rw [beq_iff_eq]; omega)]
      exact spec_RowSum.from_ bs row hp hlb h hl bs.length k 0 (by omega) (by omega) (by omega) (fun j hj => by omega)
  · rw [if_neg (by simpa using h)]
    simp only [spec_RowSum.j0, if_true]
    rw [rsum_no (fun H => h H.2.1)]
theorem impl_RowSum.eq (bs : List ByteArray) (row : List Int) (hlb : bs.length < 1000000000) (hl : row.length < 1000000000) (k : Nat) (hk : 50 + bs.length + row.length < k) : impl_RowSum.f k bs row = some (rsum bs row) := by
  obtain ⟨k, rfl, _⟩ := pos_of (show 0 < k by omega)
  have no : impl_RowSum.j0 (k + 1) bs row true = some ((⟨#[]⟩ : ByteArray), false) := by simp only [impl_RowSum.j0, if_true]
  unfold impl_RowSum.f
  by_cases h0 : bs = []
  · rw [if_pos (by rw [h0]; rfl), no, rsum_no (fun H => H.1 h0)]
  · have hp := List.length_pos_iff.2 h0
    rw [if_neg (by omega), if_pos (by omega), rdOf_get, Int.toNat_zero]
    by_cases h1 : ((bs.getD 0 ByteArray.empty).size : Int) > 16
    · rw [if_pos h1, no, rsum_no (fun H => by have := H.2.2.2; omega)]
    · rw [if_neg h1, impl_RowOk.eq row _ (by omega) _ (by omega), Option.bind_some]
      by_cases h : RowP row bs.length
      · rw [decide_eq_true h]
        simp only [impl_RowSum.j0, Bool.not_true, Bool.false_eq_true, if_false]
        exact impl_RowSum.from0 bs row hp hlb h hl (by omega) bs.length k 0 (by omega) (by omega) (by omega) (fun j hj => by omega)
      · rw [decide_eq_false h, Bool.not_false, no, rsum_no (fun H => h H.2.1)]

end Go.Proofs.Ytbgheffgkncpgaa.X
