/- Plain facts about lists and numbers that the claim's proof uses. Conditions: those that each theorem states. -/
import Derived.Test.YtaeeickboakmgaaXx5
import Derived.Test.YtaeeickboakmgaaQRows
import Derived.Test.YtaeeickboakmgaaQRowOk
set_option linter.unusedVariables false
set_option linter.unusedSimpArgs false
namespace Go.Proofs.Ytaeeickboakmgaa.X
open Go.RowKit Go.Proofs.YtaeeickboakmgaaW.PrintWords Go.Proofs.YtaeeickboakmgaaW.PrintLast Go.Proofs.YtaeeickboakmgaaW.PrintMore

theorem u32wrap {x : Int} (h0 : 0 ≤ x) (h1 : x < 4294967296) : IntKind.u32.wrap x = x := by
  simp [IntKind.wrap, IntKind.bits, IntKind.signed]
  omega
theorem shl32 (n : Int) (h0 : 0 ≤ n) (h1 : n < 32) : shl .u32 1 n = ((2 ^ n.toNat : Nat) : Int) := by
  unfold shl
  have e : min n.toNat IntKind.u32.bits = n.toNat := Nat.min_eq_left (show n.toNat ≤ 32 by omega)
  rw [e, Int.one_mul]
  have h2 : 2 ^ n.toNat < 2 ^ 32 := Nat.pow_lt_pow_right (by decide) (by omega)
  have h3 : ((2 : Int) ^ n.toNat) = ((2 ^ n.toNat : Nat) : Int) := by rw [Int.natCast_pow]; rfl
  rw [h3]
  exact u32wrap (Int.natCast_nonneg _) (by have h4 := Int.ofNat_lt.2 h2; exact h4)
theorem or32 (a b : Nat) (ha : a < 2 ^ 32) (hb : b < 2 ^ 32) : Go.bits .or .u32 (a : Int) (b : Int) = ((a ||| b : Nat) : Int) := by
  have hc := Nat.or_lt_two_pow ha hb
  simp only [Go.bits, BitVec.ofInt_natCast, BitVec.toNat_or, BitVec.toNat_ofNat]
  rw [Nat.mod_eq_of_lt (show a < 2 ^ IntKind.u32.bits from ha), Nat.mod_eq_of_lt (show b < 2 ^ IntKind.u32.bits from hb)]
  exact u32wrap (by omega) (by omega)
theorem xor32 (a b : Nat) (ha : a < 2 ^ 32) (hb : b < 2 ^ 32) : Go.bits .xor .u32 (a : Int) (b : Int) = ((a ^^^ b : Nat) : Int) := by
  have hc := Nat.xor_lt_two_pow ha hb
  simp only [Go.bits, BitVec.ofInt_natCast, BitVec.toNat_xor, BitVec.toNat_ofNat]
  rw [Nat.mod_eq_of_lt (show a < 2 ^ IntKind.u32.bits from ha), Nat.mod_eq_of_lt (show b < 2 ^ IntKind.u32.bits from hb)]
  exact u32wrap (by omega) (by omega)
theorem and32 (a b : Nat) (ha : a < 2 ^ 32) (hb : b < 2 ^ 32) : Go.bits .and .u32 (a : Int) (b : Int) = ((a &&& b : Nat) : Int) := by
  have hc := Nat.and_lt_two_pow a hb
  simp only [Go.bits, BitVec.ofInt_natCast, BitVec.toNat_and, BitVec.toNat_ofNat]
  rw [Nat.mod_eq_of_lt (show a < 2 ^ IntKind.u32.bits from ha), Nat.mod_eq_of_lt (show b < 2 ^ IntKind.u32.bits from hb)]
  exact u32wrap (by omega) (by omega)
theorem bit32 (m : Nat) (hm : m < 2 ^ 32) (n : Int) (h0 : 0 ≤ n) (h1 : n < 32) : (Go.bits .and .u32 (shr .u32 (m : Int) n) 1 = 1) ↔ m.testBit n.toNat = true := by
  unfold shr
  have e : min n.toNat IntKind.u32.bits = n.toNat := Nat.min_eq_left (show n.toNat ≤ 32 by omega)
  have e2 : (m : Int) / 2 ^ n.toNat = ((m >>> n.toNat : Nat) : Int) := by rw [Nat.shiftRight_eq_div_pow, Int.natCast_ediv, Int.natCast_pow]; rfl
  rw [e, e2]
  have h := and32 (m >>> n.toNat) 1 (Nat.lt_of_le_of_lt (Nat.shiftRight_le _ _) hm) (by decide)
  rw [show ((1 : Nat) : Int) = 1 from rfl] at h
  rw [h, Nat.and_one_is_mod, Nat.shiftRight_eq_div_pow, ← Nat.toNat_testBit]
  cases m.testBit n.toNat <;> simp
theorem impl_mask.from_ (l : List Int) (hl : ∀ x ∈ l, 0 ≤ x ∧ x < 32) (hn : l.length < 9223372036854775807) (d : Nat) : ∀ (k i m : Nat), l.length - i = d → i ≤ l.length → d < k → m < 2 ^ 32 →
    impl_mask.l0 k (m : Int) l (l.length : Int) i = some ((maskFrom m (l.drop i) : Nat) : Int) := by
  induction d with
  | zero =>
    intro k i m hd hi hk hm
    obtain ⟨k, rfl, _⟩ := pos_of hk
    simp only [impl_mask.l0]
    rw [if_neg (by omega), List.drop_eq_nil_of_le (by omega)]
    rfl
  | succ d ih =>
    intro k i m hd hi hk hm
    obtain ⟨k, rfl, hk'⟩ := pos_of hk
    have hlt : i < l.length := by omega
    have hx := hl l[i] (List.getElem_mem hlt)
    simp only [impl_mask.l0]
    rw [if_pos (by omega), if_pos (by omega), if_pos (by omega), rd_lt hlt, if_pos hx.1, w64n (by omega), shl32 _ hx.1 hx.2]
    have hp : 2 ^ (l[i]).toNat < 2 ^ 32 := Nat.pow_lt_pow_right (by decide) (by omega)
    rw [or32 m _ hm hp, ih k (i + 1) _ (by omega) (by omega) (by omega) (Nat.or_lt_two_pow hm hp), List.drop_eq_getElem_cons hlt]
    rfl
theorem impl_mask.eq (l : List Int) (hl : ∀ x ∈ l, 0 ≤ x ∧ x < 32) (hn : l.length < 9223372036854775807) (k : Nat) (hk : l.length < k) : impl_mask.f k l = some ((maskN l : Nat) : Int) := by
  unfold impl_mask.f
  have := impl_mask.from_ l hl hn l.length k 0 0 (by omega) (by omega) hk (by decide)
  exact this

end Go.Proofs.Ytaeeickboakmgaa.X
