/- Plain facts about lists and numbers that the claim's proof uses. Conditions: those that each theorem states. -/
import Derived.Test.YtbgheffgkncpgaaXx1
import Derived.Test.YtbgheffgkncpgaaQRSum
import Derived.Test.YtbgheffgkncpgaaQRowX
set_option linter.unusedVariables false
set_option linter.unusedSimpArgs false
namespace Go.Proofs.Ytbgheffgkncpgaa.X
open Go.RowKit Go.Proofs.YtbgheffgkncpgaaW.PrintWords Go.Proofs.YtbgheffgkncpgaaW.PrintLast Go.Proofs.YtbgheffgkncpgaaW.PrintMore

/-- The numbers g n of a row, on top of z. -/
def xs (g : Int → Nat) (row : List Int) (z : Nat) : Nat := row.foldl (fun t n => t ^^^ g n) z
theorem xs_cons (g : Int → Nat) (n : Int) (row : List Int) (z : Nat) : xs g (n :: row) z = xs g row (z ^^^ g n) := rfl
theorem xs_shift (g : Int → Nat) : ∀ (row : List Int) (z : Nat), xs g row z = z ^^^ xs g row 0
  | [], z => (Nat.xor_zero z).symm
  | n :: row, z => by
    rw [xs_cons, xs_cons, xs_shift g row (z ^^^ g n), xs_shift g row (0 ^^^ g n), Nat.zero_xor, Nat.xor_assoc]
theorem xlc (a b c : Nat) : a ^^^ (b ^^^ c) = b ^^^ (a ^^^ c) := by rw [← Nat.xor_assoc, Nat.xor_comm a, Nat.xor_assoc]
theorem xs_cons0 (g : Int → Nat) (n : Int) (row : List Int) : xs g (n :: row) 0 = g n ^^^ xs g row 0 := by
  rw [xs_cons, Nat.zero_xor, xs_shift]
theorem xs_xorL (g : Int → Nat) (a b : List Int) : xs g (xorL a b) 0 = xs g a 0 ^^^ xs g b 0 := by
  have key : ∀ (n : Nat) (a b : List Int), a.length + b.length = n → xs g (xorL a b) 0 = xs g a 0 ^^^ xs g b 0 := by
    intro n
    induction n using Nat.strongRecOn with
    | ind n ih =>
      intro a b hn
      match a, b with
      | [], b => rw [xorL_nil_left]; exact (Nat.zero_xor _).symm
      | x :: a, [] => rw [xorL_nil_right]; exact (Nat.xor_zero _).symm
      | x :: a, y :: b =>
        simp only [List.length_cons] at hn
        rw [xorL_cons]
        by_cases h1 : x < y
        · rw [if_pos h1, xs_cons0 g x (xorL a (y :: b)), ih (a.length + (b.length + 1)) (by omega) a (y :: b) (by simp), xs_cons0 g x a, Nat.xor_assoc]
        · rw [if_neg h1]
          by_cases h2 : y < x
          · rw [if_pos h2, xs_cons0 g y (xorL (x :: a) b), ih (a.length + 1 + b.length) (by omega) (x :: a) b (by simp), xs_cons0 g y b, xlc]
          · have e : x = y := by omega
            subst e
            rw [if_neg h2, ih (a.length + b.length) (by omega) a b rfl, xs_cons0 g x a, xs_cons0 g x b, Nat.xor_assoc, xlc (xs g a 0), ← Nat.xor_assoc, Nat.xor_self, Nat.zero_xor]
  exact key _ a b rfl
theorem sumB_bytes (bs : List ByteArray) (s : Nat) (hs : ∀ b ∈ bs, b.size = s) (j : Nat) (hj : j < s) : ∀ (row : List Int) (z : ByteArray), z.size = s → (∀ n ∈ row, 0 ≤ n ∧ n < bs.length) → bA (sumB bs row z) j = xs (fun n => bA (bs.getD n.toNat ByteArray.empty) j) row (bA z j)
  | [], z, hz, _ => rfl
  | n :: row, z, hz, h => by
    have hn := h n List.mem_cons_self
    have hb : (bs.getD n.toNat ByteArray.empty).size = s := by
      rw [List.getD_eq_getElem?_getD, List.getElem?_eq_getElem (show n.toNat < bs.length by omega)]
      exact hs _ (List.getElem_mem _)
    have q := sumB_bytes bs s hs j hj row (xorB z (bs.getD n.toNat ByteArray.empty)) (by rw [xorB_size _ _ (by omega)]; exact hz) (fun m hm => h m (List.mem_cons_of_mem _ hm))
    rw [bA_xorB z _ j (by omega) (by omega)] at q
    exact q
theorem sumB_xorL (bs : List ByteArray) (s : Nat) (hs : ∀ b ∈ bs, b.size = s) (a b : List Int) (ha : ∀ n ∈ a, 0 ≤ n ∧ n < bs.length) (hb : ∀ n ∈ b, 0 ≤ n ∧ n < bs.length) (hx : ∀ n ∈ xorL a b, 0 ≤ n ∧ n < bs.length) : sumB bs (xorL a b) (zerosB s) = xorB (sumB bs a (zerosB s)) (sumB bs b (zerosB s)) := by
  have s1 := sumB_size bs s hs a (zerosB s) (zerosB_size s) ha
  have s2 := sumB_size bs s hs b (zerosB s) (zerosB_size s) hb
  have s3 := sumB_size bs s hs (xorL a b) (zerosB s) (zerosB_size s) hx
  refine ba_ext (by rw [s3, xorB_size _ _ (by omega), s1]) fun j hj => ?_
  rw [s3] at hj
  rw [bA_xorB _ _ _ (by omega) (by omega), sumB_bytes bs s hs j hj _ _ (zerosB_size s) hx, sumB_bytes bs s hs j hj _ _ (zerosB_size s) ha, sumB_bytes bs s hs j hj _ _ (zerosB_size s) hb, bA_zeros, xs_xorL]
theorem row_up {a : List Int} {c : Nat} (h : RowP a c) : RowP a 24 := ⟨by omega, by omega, h.2.2.1, fun x hx => by have := h.2.2.2 x hx; have := h.2.1; omega⟩
theorem xor_row {a b : List Int} {c : Nat} (ha : RowP a c) (hb : RowP b c) : RowP (xorL a b) c := ⟨ha.1, ha.2.1, (xorL_mem a b ha.2.2.1 hb.2.2.1).2, xorL_in a b ha.2.2.1 hb.2.2.1 c ha.2.2.2 hb.2.2.2⟩
theorem rsum_xorL {bs : List ByteArray} {a b : List Int} (ha : SumP bs a) (hb : RowP b bs.length) : SumP bs b ∧ rsum bs (xorL a b) = (xorB (rsum bs a).1 (rsum bs b).1, true) ∧ (rsum bs a).1.size = (rsum bs b).1.size ∧ (rsum bs a).1.size ≤ 16 := by
  have pb : SumP bs b := ⟨ha.1, hb, ha.2.2⟩
  have px : SumP bs (xorL a b) := ⟨ha.1, xor_row ha.2.1 hb, ha.2.2⟩
  have hs := evenB_mem ha.2.2.1
  have ia : ∀ n ∈ a, 0 ≤ n ∧ n < bs.length := fun n hn => ha.2.1.2.2.2 n hn
  have ib : ∀ n ∈ b, 0 ≤ n ∧ n < bs.length := fun n hn => hb.2.2.2 n hn
  have ix : ∀ n ∈ xorL a b, 0 ≤ n ∧ n < bs.length := fun n hn => px.2.1.2.2.2 n hn
  unfold rsum
  rw [if_pos ha, if_pos pb, if_pos px, sumB_xorL bs _ hs a b ia ib ix]
  have s1 := sumB_size bs _ hs a _ (zerosB_size _) ia
  have s2 := sumB_size bs _ hs b _ (zerosB_size _) ib
  exact ⟨pb, rfl, by rw [s1, s2], by rw [s1]; exact ha.2.2.2⟩

end Go.Proofs.Ytbgheffgkncpgaa.X
