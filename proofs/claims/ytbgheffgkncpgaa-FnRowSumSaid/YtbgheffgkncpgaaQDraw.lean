/- Plain facts about lists and numbers that the claim's proof uses. Conditions: those that each theorem states. -/
import Derived.Test.YtbgheffgkncpgaaXx5
import Derived.Test.YtbgheffgkncpgaaQM
set_option linter.unusedVariables false
set_option linter.unusedSimpArgs false
namespace Go.Proofs.Ytbgheffgkncpgaa.X
open Go.RowKit Go.Proofs.YtbgheffgkncpgaaW.PrintWords Go.Proofs.YtbgheffgkncpgaaW.PrintLast Go.Proofs.YtbgheffgkncpgaaW.PrintMore

/-- The bytes that a drawing reads. -/
def Bytes (b : List Int) : Prop := (∀ x ∈ b, 0 ≤ x ∧ x ≤ 255) ∧ b.length ≤ 2000
theorem Bytes.rd {b : List Int} (h : Bytes b) (i : Int) : 0 ≤ rd b i ∧ rd b i ≤ 255 := by
  unfold Go.Proofs.YtbgheffgkncpgaaW.PrintWords.rd
  rw [List.getD_eq_getElem?_getD]
  rcases Nat.lt_or_ge i.toNat b.length with h1 | h1
  · rw [List.getElem?_eq_getElem h1]
    exact h.1 _ (List.getElem_mem h1)
  · rw [List.getElem?_eq_none h1]
    simp
theorem xor64 (x y : Int) (hx0 : 0 ≤ x) (hx : x < 4611686018427387904) (hy0 : 0 ≤ y) (hy : y < 4611686018427387904) : 0 ≤ Go.bits .xor .i64 x y ∧ Go.bits .xor .i64 x y < 4611686018427387904 := by
  obtain ⟨a, rfl⟩ := Int.eq_ofNat_of_zero_le hx0
  obtain ⟨b, rfl⟩ := Int.eq_ofNat_of_zero_le hy0
  have ha : a < 2 ^ 62 := by omega
  have hb : b < 2 ^ 62 := by omega
  have hc : a ^^^ b < 2 ^ 62 := Nat.xor_lt_two_pow ha hb
  have e : Go.bits .xor .i64 (a : Int) (b : Int) = ((a ^^^ b : Nat) : Int) := by
    simp only [Go.bits, BitVec.ofInt_natCast, BitVec.toNat_xor, BitVec.toNat_ofNat]
    rw [Nat.mod_eq_of_lt (show a < 2 ^ IntKind.i64.bits from Nat.lt_of_lt_of_le ha (by decide)), Nat.mod_eq_of_lt (show b < 2 ^ IntKind.i64.bits from Nat.lt_of_lt_of_le hb (by decide))]
    rw [show IntKind.i64.wrap ((a ^^^ b : Nat) : Int) = wrap64 ((a ^^^ b : Nat) : Int) from IntWalk.i64_left _]
    exact w64 (by omega) (by omega)
  rw [e]
  omega
theorem spec_l1Open.eq (l : List Int) : spec_l1Open.f l = some (l.take 2000, 0) := by
  unfold spec_l1Open.f
  by_cases h : (l.length : Int) > 2000
  · rw [if_pos h, if_pos (by omega)]
  · rw [if_neg h, List.take_of_length_le (by omega)]
theorem Bytes.open {l : List Int} (h : ∀ x ∈ l, (Lit.int .u8 x).wf = true) : Bytes (l.take 2000) :=
  ⟨fun x hx => wf8 (h x (List.mem_of_mem_take hx)), by rw [List.length_take]; omega⟩
theorem tm {v n : Int} (h0 : 0 ≤ v) (hn : 1 ≤ n) : 0 ≤ Int.tmod v n ∧ Int.tmod v n < n := by
  rw [Int.tmod_eq_emod_of_nonneg h0]
  exact ⟨Int.emod_nonneg _ (by omega), Int.emod_lt_of_pos _ (by omega)⟩
theorem spec_l1Rd_pick.ok (b : List Int) (hb : Bytes b) (p n : Int) (hp0 : 0 ≤ p) (hp : p < 1000000000) (k : Nat) (hk : 0 < k) :
    ∃ v, spec_l1Rd_pick.f k b p n = some (v, p + 1) ∧ 0 ≤ v ∧ (1 ≤ n → v < n) := by
  obtain ⟨k, rfl, _⟩ := pos_of hk
  have e1 : wrap64 (p + 1) = p + 1 := w64 (by omega) (by omega)
  have e2 : wrap64 (p + 1 - 1) = p := by rw [w64 (by omega) (by omega)]; omega
  have hl := hb.2
  unfold spec_l1Rd_pick.f
  by_cases h1 : n < 1
  · rw [if_pos h1]
    simp only [spec_l1Rd_pick.j0, e1]
    exact ⟨0, rfl, by omega, fun h => by omega⟩
  · rw [if_neg h1]
    simp only [spec_l1Rd_pick.j0, e1, e2]
    by_cases h2 : ((b.length : Int) == 0) = true
    · rw [if_pos h2]
      exact ⟨0, rfl, by omega, fun h => by omega⟩
    · have h2' : 0 < b.length := by
        simp only [beq_iff_eq] at h2
        omega
      rw [if_neg h2]
      by_cases h3 : p < (b.length : Int)
      · rw [if_pos h3, if_pos hp0, if_neg (by omega)]
        have r := hb.rd p
        rw [w64 (by omega) (by omega)]
        have := tm r.1 (show 1 ≤ n by omega)
        exact ⟨_, rfl, this.1, fun _ => this.2⟩
      · rw [if_neg h3, if_neg (by omega)]
        have q1 := tm hp0 (show (1 : Int) ≤ b.length by omega)
        rw [w64 (x := p * 7) (by omega) (by omega), w64 (x := p * 7 + 3) (by omega) (by omega)]
        have q2 := tm (show 0 ≤ p * 7 + 3 by omega) (show (1 : Int) ≤ b.length by omega)
        rw [if_pos q1.1, if_pos q1.2, if_pos q2.1, if_pos q2.2, if_neg (by omega)]
        have r1 := hb.rd (Int.tmod p (b.length : Int))
        have r2 := hb.rd (Int.tmod (p * 7 + 3) (b.length : Int))
        generalize Go.Proofs.YtbgheffgkncpgaaW.PrintWords.rd b (Int.tmod p (b.length : Int)) = x1 at r1
        generalize Go.Proofs.YtbgheffgkncpgaaW.PrintWords.rd b (Int.tmod (p * 7 + 3) (b.length : Int)) = x2 at r2
        have hd : 0 ≤ Int.tdiv p (b.length : Int) ∧ Int.tdiv p (b.length : Int) ≤ p := by
          rw [Int.tdiv_eq_ediv_of_nonneg hp0]
          exact ⟨Int.ediv_nonneg hp0 (by omega), Int.ediv_le_self _ hp0⟩
        generalize Int.tdiv p (b.length : Int) = x3 at hd
        have s0 : 0 ≤ x1 * 131 + x2 * 1117 + p * 29 + x3 * 53 ∧ x1 * 131 + x2 * 1117 + p * 29 + x3 * 53 < 4611686018427387904 := by omega
        rw [w64 (x := x1) (by omega) (by omega), w64 (x := x2) (by omega) (by omega), w64 (x := x1 * 131) (by omega) (by omega), w64 (x := x2 * 1117) (by omega) (by omega), w64 (x := x1 * 131 + x2 * 1117) (by omega) (by omega), w64 (x := p * 29) (by omega) (by omega), w64 (x := x1 * 131 + x2 * 1117 + p * 29) (by omega) (by omega), w64 (x := x3) (by omega) (by omega), w64 (x := x3 * 53) (by omega) (by omega), w64 (x := x1 * 131 + x2 * 1117 + p * 29 + x3 * 53) (by omega) (by omega)]
        generalize x1 * 131 + x2 * 1117 + p * 29 + x3 * 53 = x4 at s0
        have s1 : 0 ≤ Int.tdiv x4 64 ∧ Int.tdiv x4 64 < 4611686018427387904 := by
          rw [Int.tdiv_eq_ediv_of_nonneg s0.1]
          omega
        rw [w64 (x := Int.tdiv x4 64) (by omega) (by omega)]
        have s2 := xor64 x4 (Int.tdiv x4 64) s0.1 s0.2 s1.1 s1.2
        have := tm s2.1 (show 1 ≤ n by omega)
        exact ⟨_, rfl, this.1, fun _ => this.2⟩
/-- A number drawn below n, and the reader one place on. -/
theorem draws (b : List Int) (hb : Bytes b) (p n : Int) (hp0 : 0 ≤ p) (hp : p < 1000000000) (hn : 1 ≤ n) (k : Nat) (hk : 0 < k) :
    ∃ v, spec_l1Rd_pick.f k b p n = some (v, p + 1) ∧ 0 ≤ v ∧ v < n := by
  obtain ⟨v, h, h0, h1⟩ := spec_l1Rd_pick.ok b hb p n hp0 hp k hk
  exact ⟨v, h, h0, h1 hn⟩
theorem rd_ok {l : List Int} {i : Int} (h0 : 0 ≤ i) (h1 : i < l.length) : ∃ x ∈ l, Go.Proofs.YtbgheffgkncpgaaW.PrintWords.rd l i = x := by
  refine ⟨l[i.toNat]'(by omega), List.getElem_mem _, ?_⟩
  unfold Go.Proofs.YtbgheffgkncpgaaW.PrintWords.rd
  rw [List.getD_eq_getElem?_getD, List.getElem?_eq_getElem (by omega)]
  rfl

end Go.Proofs.Ytbgheffgkncpgaa.X
