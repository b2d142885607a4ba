/- Plain facts about lists and numbers that the claim's proof uses. Conditions: those that each theorem states. -/
import Derived.Test.YtbgheffgkncpgaaXx1
import Derived.Test.YtbgheffgkncpgaaQM
set_option linter.unusedVariables false
set_option linter.unusedSimpArgs false
namespace Go.Proofs.Ytbgheffgkncpgaa.X
open Go.RowKit Go.Proofs.YtbgheffgkncpgaaW.PrintWords Go.Proofs.YtbgheffgkncpgaaW.PrintLast Go.Proofs.YtbgheffgkncpgaaW.PrintMore

theorem ba_ext {a b : ByteArray} (h : a.size = b.size) (hj : ∀ j, j < a.size → bA a j = bA b j) : a = b := by
  apply ByteArray.ext
  apply Array.toList_inj.1
  have hs : a.data.toList.length = b.data.toList.length := by
    rw [Array.length_toList, Array.length_toList]
    exact h
  refine List.ext_getElem hs fun j h1 h2 => ?_
  have h3 : j < a.size := by
    rw [Array.length_toList] at h1
    exact h1
  have h4 := hj j h3
  unfold bA at h4
  rw [List.getD_eq_getElem?_getD, List.getD_eq_getElem?_getD, List.getElem?_eq_getElem h1, List.getElem?_eq_getElem h2] at h4
  exact UInt8.toNat_inj.1 h4
theorem bt_bA (a : ByteArray) (j : Nat) (h : j < a.size) : bt a (j : Int) = ((bA a j : Nat) : Int) := by
  unfold bt
  have h' : (j : Int).toNat < a.size := by simpa using h
  rw [dif_pos h', bA_get a j h]
  rfl
theorem bA_str (xs : List Int) (j : Nat) (h : j < xs.length) (h0 : ∀ x ∈ xs, 0 ≤ x ∧ x < 256) : ((bA (strOfNums xs) j : Nat) : Int) = xs.getD j 0 := by
  unfold bA
  rw [strOfNums_data, List.getD_eq_getElem?_getD, List.getElem?_map, List.getD_eq_getElem?_getD, List.getElem?_eq_getElem h]
  have := h0 _ (List.getElem_mem h)
  show ((UInt8.ofNat xs[j].toNat).toNat : Int) = xs[j]
  rw [UInt8.toNat_ofNat']
  omega
theorem xorB_self_comm {a b : ByteArray} (h : a.size = b.size) : xorB a b = xorB b a := by
  refine ba_ext (by rw [xorB_size a b (by omega), xorB_size b a (by omega), h]) fun j hj => ?_
  rw [xorB_size a b (by omega)] at hj
  rw [bA_xorB a b j hj (by omega), bA_xorB b a j (by omega) (by omega), Nat.xor_comm]
theorem xorB_assoc {a b c : ByteArray} (h : a.size = b.size) (h2 : b.size = c.size) : xorB (xorB a b) c = xorB a (xorB b c) := by
  have s1 := xorB_size a b (by omega)
  have s2 := xorB_size b c (by omega)
  refine ba_ext (by rw [xorB_size (xorB a b) c (by omega), s1, xorB_size a (xorB b c) (by omega)]) fun j hj => ?_
  rw [xorB_size (xorB a b) c (by omega), s1] at hj
  rw [bA_xorB (xorB a b) c j (by omega) (by omega), bA_xorB a b j hj (by omega), bA_xorB a (xorB b c) j hj (by omega), bA_xorB b c j (by omega) (by omega), Nat.xor_assoc]
theorem xorB_back {a b : ByteArray} (h : a.size = b.size) : xorB (xorB a b) b = a := by
  have s1 := xorB_size a b (by omega)
  refine ba_ext (by rw [xorB_size (xorB a b) b (by omega), s1]) fun j hj => ?_
  rw [xorB_size (xorB a b) b (by omega), s1] at hj
  rw [bA_xorB (xorB a b) b j (by omega) (by omega), bA_xorB a b j hj (by omega), Nat.xor_assoc, Nat.xor_self, Nat.xor_zero]
theorem spec_l2Block.from_ (a b : ByteArray) (hs : a.size ≤ b.size) (hm : a.size < 1000000000) (d : Nat) : ∀ (k i : Nat), a.size - i = d → i ≤ a.size → d < k →
    spec_l2Block.l0 k a b ((List.range i).map fun j => (((bA a j ^^^ bA b j : Nat)) : Int)) i = some (xorB a b) := by
  induction d with
  | zero =>
    intro k i hd hi hk
    obtain ⟨k, rfl, _⟩ := pos_of hk
    simp only [spec_l2Block.l0]
    rw [if_neg (by omega)]
    have e : i = a.size := by omega
    subst e
    refine congrArg some (ba_ext ?_ fun j hj => ?_)
    · rw [strOfNums_size, List.length_map, List.length_range, xorB_size _ _ hs]
    · rw [strOfNums_size, List.length_map, List.length_range] at hj
      have h1 := bA_str ((List.range a.size).map fun j => (((bA a j ^^^ bA b j : Nat)) : Int)) j (by simpa using hj) (by
        intro x hx
        obtain ⟨j', _, rfl⟩ := List.mem_map.1 hx
        have := Nat.xor_lt_two_pow (n := 8) (bA_lt a j') (bA_lt b j')
        omega)
      rw [bA_xorB _ _ _ hj hs]
      have h2 : ((List.range a.size).map fun j => (((bA a j ^^^ bA b j : Nat)) : Int)).getD j 0 = ((bA a j ^^^ bA b j : Nat) : Int) := by
        rw [List.getD_eq_getElem?_getD, List.getElem?_map, List.getElem?_range hj]
        rfl
      rw [h2] at h1
      exact Int.ofNat_inj.1 h1
  | succ d ih =>
    intro k i hd hi hk
    obtain ⟨k, rfl, hk'⟩ := pos_of hk
    simp only [spec_l2Block.l0]
    rw [if_pos (by omega), if_pos (by omega), if_pos (by omega), if_pos (by rw [List.length_map, List.length_range]; omega), bt_bA a i (by omega), bt_bA b i (by omega), xor8 _ _ (bA_lt _ _) (bA_lt _ _), w64n (by omega)]
    have e : ((List.range i).map fun j => (((bA a j ^^^ bA b j : Nat)) : Int)) ++ [((bA a i ^^^ bA b i : Nat) : Int)] = (List.range (i + 1)).map fun j => (((bA a j ^^^ bA b j : Nat)) : Int) := by
      rw [List.range_succ, List.map_append]
      rfl
    rw [e]
    exact ih k (i + 1) (by omega) (by omega) (by omega)
theorem spec_l2Block.eq (a b : ByteArray) (hs : a.size ≤ b.size) (hm : a.size < 1000000000) (k : Nat) (hk : a.size < k) : spec_l2Block.f k a b = some (xorB a b) := spec_l2Block.from_ a b hs hm a.size k 0 (by omega) (by omega) hk
theorem impl_xor.eq (a b : ByteArray) (hs : a.size ≤ b.size) (hm : a.size < 1000000000) : impl_xor.f a b = some (xorB a b) := if_pos ⟨hs, by omega⟩
/-- What both block sums are. -/
def bxor (a b : ByteArray) : ByteArray × Bool := if a.size = b.size ∧ a.size ≤ 16 then (xorB a b, true) else ((⟨#[]⟩ : ByteArray), false)

end Go.Proofs.Ytbgheffgkncpgaa.X
