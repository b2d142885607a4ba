/- Plain words: rows as ascending lists and as bits, blocks of bytes. Conditions: those that each theorem states. -/
import Derived.Test.YtbgheffgkncpgaaVxLoop
set_option linter.unusedVariables false
set_option linter.unusedSimpArgs false
namespace Vx.N
open Go
theorem pos_of {k n : Nat} (h : n < k) : ∃ m, k = m + 1 ∧ n ≤ m := ⟨k - 1, by omega, by omega⟩
theorem bool_eq {a b : Bool} (h : a = true ↔ b = true) : a = b := by cases a <;> cases b <;> simp_all
theorem w64 {x : Int} (h0 : -9223372036854775808 ≤ x) (h1 : x ≤ 9223372036854775807) : IntKind.wrap .i64 x = x := by
  simp [IntKind.wrap, IntKind.bits, IntKind.signed]
  omega
theorem w64i {i : Int} (h0 : 0 ≤ i) (h : i < 9223372036854775807) : IntKind.wrap .i64 (i + 1) = i + 1 := w64 (by omega) (by omega)
theorem u32wrap {x : Int} (h0 : 0 ≤ x) (h1 : x < 4294967296) : IntKind.wrap .u32 x = x := by
  simp [IntKind.wrap, IntKind.bits, IntKind.signed]
  omega
theorem u8wrap {x : Int} (h0 : 0 ≤ x) (h1 : x < 256) : IntKind.wrap .u8 x = x := by
  simp [IntKind.wrap, IntKind.bits, IntKind.signed]
  omega
theorem getD_lt {α : Type} {l : List α} {i : Nat} (h : i < l.length) (z : α) : l.getD i z = l[i] := by simp [List.getD, h]
/-! ### The rule for loops, by what is held -/
theorem fix1 {A0 R : Type} {T : (A0 → Option R) → A0 → Option R} (Inv : A0 → Prop) (μ : A0 → Nat) (r : A0 → R)
    (h : ∀ a0 K, Inv a0 → (∀ b0, Inv b0 → μ b0 < μ a0 → K b0 = some (r b0)) → T K a0 = some (r a0)) (m : Nat) (a0) (hi : Inv a0) (hm : μ a0 < m) : fixL T m a0 = some (r a0) :=
  fixL_ok (fun | a0 => Inv a0) (fun | a0 => μ a0) (fun | a0 => r a0) (fun | a0, K, hi, hK => h a0 K hi fun b0 hj hlt => hK b0 hj hlt) m a0 hi hm
theorem fix2 {A0 A1 R : Type} {T : (A0 × A1 → Option R) → A0 × A1 → Option R} (Inv : A0 → A1 → Prop) (μ : A0 → A1 → Nat) (r : A0 → A1 → R)
    (h : ∀ a0 a1 K, Inv a0 a1 → (∀ b0 b1, Inv b0 b1 → μ b0 b1 < μ a0 a1 → K (b0, b1) = some (r b0 b1)) → T K (a0, a1) = some (r a0 a1)) (m : Nat) (a0 a1) (hi : Inv a0 a1) (hm : μ a0 a1 < m) : fixL T m (a0, a1) = some (r a0 a1) :=
  fixL_ok (fun | (a0, a1) => Inv a0 a1) (fun | (a0, a1) => μ a0 a1) (fun | (a0, a1) => r a0 a1) (fun | (a0, a1), K, hi, hK => h a0 a1 K hi fun b0 b1 hj hlt => hK (b0, b1) hj hlt) m (a0, a1) hi hm
theorem fix3 {A0 A1 A2 R : Type} {T : (A0 × A1 × A2 → Option R) → A0 × A1 × A2 → Option R} (Inv : A0 → A1 → A2 → Prop) (μ : A0 → A1 → A2 → Nat) (r : A0 → A1 → A2 → R)
    (h : ∀ a0 a1 a2 K, Inv a0 a1 a2 → (∀ b0 b1 b2, Inv b0 b1 b2 → μ b0 b1 b2 < μ a0 a1 a2 → K (b0, b1, b2) = some (r b0 b1 b2)) → T K (a0, a1, a2) = some (r a0 a1 a2)) (m : Nat) (a0 a1 a2) (hi : Inv a0 a1 a2) (hm : μ a0 a1 a2 < m) : fixL T m (a0, a1, a2) = some (r a0 a1 a2) :=
  fixL_ok (fun | (a0, a1, a2) => Inv a0 a1 a2) (fun | (a0, a1, a2) => μ a0 a1 a2) (fun | (a0, a1, a2) => r a0 a1 a2) (fun | (a0, a1, a2), K, hi, hK => h a0 a1 a2 K hi fun b0 b1 b2 hj hlt => hK (b0, b1, b2) hj hlt) m (a0, a1, a2) hi hm
theorem fix4 {A0 A1 A2 A3 R : Type} {T : (A0 × A1 × A2 × A3 → Option R) → A0 × A1 × A2 × A3 → Option R} (Inv : A0 → A1 → A2 → A3 → Prop) (μ : A0 → A1 → A2 → A3 → Nat) (r : A0 → A1 → A2 → A3 → R)
    (h : ∀ a0 a1 a2 a3 K, Inv a0 a1 a2 a3 → (∀ b0 b1 b2 b3, Inv b0 b1 b2 b3 → μ b0 b1 b2 b3 < μ a0 a1 a2 a3 → K (b0, b1, b2, b3) = some (r b0 b1 b2 b3)) → T K (a0, a1, a2, a3) = some (r a0 a1 a2 a3)) (m : Nat) (a0 a1 a2 a3) (hi : Inv a0 a1 a2 a3) (hm : μ a0 a1 a2 a3 < m) : fixL T m (a0, a1, a2, a3) = some (r a0 a1 a2 a3) :=
  fixL_ok (fun | (a0, a1, a2, a3) => Inv a0 a1 a2 a3) (fun | (a0, a1, a2, a3) => μ a0 a1 a2 a3) (fun | (a0, a1, a2, a3) => r a0 a1 a2 a3) (fun | (a0, a1, a2, a3), K, hi, hK => h a0 a1 a2 a3 K hi fun b0 b1 b2 b3 hj hlt => hK (b0, b1, b2, b3) hj hlt) m (a0, a1, a2, a3) hi hm
theorem fix5 {A0 A1 A2 A3 A4 R : Type} {T : (A0 × A1 × A2 × A3 × A4 → Option R) → A0 × A1 × A2 × A3 × A4 → Option R} (Inv : A0 → A1 → A2 → A3 → A4 → Prop) (μ : A0 → A1 → A2 → A3 → A4 → Nat) (r : A0 → A1 → A2 → A3 → A4 → R)
    (h : ∀ a0 a1 a2 a3 a4 K, Inv a0 a1 a2 a3 a4 → (∀ b0 b1 b2 b3 b4, Inv b0 b1 b2 b3 b4 → μ b0 b1 b2 b3 b4 < μ a0 a1 a2 a3 a4 → K (b0, b1, b2, b3, b4) = some (r b0 b1 b2 b3 b4)) → T K (a0, a1, a2, a3, a4) = some (r a0 a1 a2 a3 a4)) (m : Nat) (a0 a1 a2 a3 a4) (hi : Inv a0 a1 a2 a3 a4) (hm : μ a0 a1 a2 a3 a4 < m) : fixL T m (a0, a1, a2, a3, a4) = some (r a0 a1 a2 a3 a4) :=
  fixL_ok (fun | (a0, a1, a2, a3, a4) => Inv a0 a1 a2 a3 a4) (fun | (a0, a1, a2, a3, a4) => μ a0 a1 a2 a3 a4) (fun | (a0, a1, a2, a3, a4) => r a0 a1 a2 a3 a4) (fun | (a0, a1, a2, a3, a4), K, hi, hK => h a0 a1 a2 a3 a4 K hi fun b0 b1 b2 b3 b4 hj hlt => hK (b0, b1, b2, b3, b4) hj hlt) m (a0, a1, a2, a3, a4) hi hm
theorem fix6 {A0 A1 A2 A3 A4 A5 R : Type} {T : (A0 × A1 × A2 × A3 × A4 × A5 → Option R) → A0 × A1 × A2 × A3 × A4 × A5 → Option R} (Inv : A0 → A1 → A2 → A3 → A4 → A5 → Prop) (μ : A0 → A1 → A2 → A3 → A4 → A5 → Nat) (r : A0 → A1 → A2 → A3 → A4 → A5 → R)
    (h : ∀ a0 a1 a2 a3 a4 a5 K, Inv a0 a1 a2 a3 a4 a5 → (∀ b0 b1 b2 b3 b4 b5, Inv b0 b1 b2 b3 b4 b5 → μ b0 b1 b2 b3 b4 b5 < μ a0 a1 a2 a3 a4 a5 → K (b0, b1, b2, b3, b4, b5) = some (r b0 b1 b2 b3 b4 b5)) → T K (a0, a1, a2, a3, a4, a5) = some (r a0 a1 a2 a3 a4 a5)) (m : Nat) (a0 a1 a2 a3 a4 a5) (hi : Inv a0 a1 a2 a3 a4 a5) (hm : μ a0 a1 a2 a3 a4 a5 < m) : fixL T m (a0, a1, a2, a3, a4, a5) = some (r a0 a1 a2 a3 a4 a5) :=
  fixL_ok (fun | (a0, a1, a2, a3, a4, a5) => Inv a0 a1 a2 a3 a4 a5) (fun | (a0, a1, a2, a3, a4, a5) => μ a0 a1 a2 a3 a4 a5) (fun | (a0, a1, a2, a3, a4, a5) => r a0 a1 a2 a3 a4 a5) (fun | (a0, a1, a2, a3, a4, a5), K, hi, hK => h a0 a1 a2 a3 a4 a5 K hi fun b0 b1 b2 b3 b4 b5 hj hlt => hK (b0, b1, b2, b3, b4, b5) hj hlt) m (a0, a1, a2, a3, a4, a5) hi hm
theorem fix7 {A0 A1 A2 A3 A4 A5 A6 R : Type} {T : (A0 × A1 × A2 × A3 × A4 × A5 × A6 → Option R) → A0 × A1 × A2 × A3 × A4 × A5 × A6 → Option R} (Inv : A0 → A1 → A2 → A3 → A4 → A5 → A6 → Prop) (μ : A0 → A1 → A2 → A3 → A4 → A5 → A6 → Nat) (r : A0 → A1 → A2 → A3 → A4 → A5 → A6 → R)
    (h : ∀ a0 a1 a2 a3 a4 a5 a6 K, Inv a0 a1 a2 a3 a4 a5 a6 → (∀ b0 b1 b2 b3 b4 b5 b6, Inv b0 b1 b2 b3 b4 b5 b6 → μ b0 b1 b2 b3 b4 b5 b6 < μ a0 a1 a2 a3 a4 a5 a6 → K (b0, b1, b2, b3, b4, b5, b6) = some (r b0 b1 b2 b3 b4 b5 b6)) → T K (a0, a1, a2, a3, a4, a5, a6) = some (r a0 a1 a2 a3 a4 a5 a6)) (m : Nat) (a0 a1 a2 a3 a4 a5 a6) (hi : Inv a0 a1 a2 a3 a4 a5 a6) (hm : μ a0 a1 a2 a3 a4 a5 a6 < m) : fixL T m (a0, a1, a2, a3, a4, a5, a6) = some (r a0 a1 a2 a3 a4 a5 a6) :=
  fixL_ok (fun | (a0, a1, a2, a3, a4, a5, a6) => Inv a0 a1 a2 a3 a4 a5 a6) (fun | (a0, a1, a2, a3, a4, a5, a6) => μ a0 a1 a2 a3 a4 a5 a6) (fun | (a0, a1, a2, a3, a4, a5, a6) => r a0 a1 a2 a3 a4 a5 a6) (fun | (a0, a1, a2, a3, a4, a5, a6), K, hi, hK => h a0 a1 a2 a3 a4 a5 a6 K hi fun b0 b1 b2 b3 b4 b5 b6 hj hlt => hK (b0, b1, b2, b3, b4, b5, b6) hj hlt) m (a0, a1, a2, a3, a4, a5, a6) hi hm
theorem fix8 {A0 A1 A2 A3 A4 A5 A6 A7 R : Type} {T : (A0 × A1 × A2 × A3 × A4 × A5 × A6 × A7 → Option R) → A0 × A1 × A2 × A3 × A4 × A5 × A6 × A7 → Option R} (Inv : A0 → A1 → A2 → A3 → A4 → A5 → A6 → A7 → Prop) (μ : A0 → A1 → A2 → A3 → A4 → A5 → A6 → A7 → Nat) (r : A0 → A1 → A2 → A3 → A4 → A5 → A6 → A7 → R)
    (h : ∀ a0 a1 a2 a3 a4 a5 a6 a7 K, Inv a0 a1 a2 a3 a4 a5 a6 a7 → (∀ b0 b1 b2 b3 b4 b5 b6 b7, Inv b0 b1 b2 b3 b4 b5 b6 b7 → μ b0 b1 b2 b3 b4 b5 b6 b7 < μ a0 a1 a2 a3 a4 a5 a6 a7 → K (b0, b1, b2, b3, b4, b5, b6, b7) = some (r b0 b1 b2 b3 b4 b5 b6 b7)) → T K (a0, a1, a2, a3, a4, a5, a6, a7) = some (r a0 a1 a2 a3 a4 a5 a6 a7)) (m : Nat) (a0 a1 a2 a3 a4 a5 a6 a7) (hi : Inv a0 a1 a2 a3 a4 a5 a6 a7) (hm : μ a0 a1 a2 a3 a4 a5 a6 a7 < m) : fixL T m (a0, a1, a2, a3, a4, a5, a6, a7) = some (r a0 a1 a2 a3 a4 a5 a6 a7) :=
  fixL_ok (fun | (a0, a1, a2, a3, a4, a5, a6, a7) => Inv a0 a1 a2 a3 a4 a5 a6 a7) (fun | (a0, a1, a2, a3, a4, a5, a6, a7) => μ a0 a1 a2 a3 a4 a5 a6 a7) (fun | (a0, a1, a2, a3, a4, a5, a6, a7) => r a0 a1 a2 a3 a4 a5 a6 a7) (fun | (a0, a1, a2, a3, a4, a5, a6, a7), K, hi, hK => h a0 a1 a2 a3 a4 a5 a6 a7 K hi fun b0 b1 b2 b3 b4 b5 b6 b7 hj hlt => hK (b0, b1, b2, b3, b4, b5, b6, b7) hj hlt) m (a0, a1, a2, a3, a4, a5, a6, a7) hi hm
theorem fix9 {A0 A1 A2 A3 A4 A5 A6 A7 A8 R : Type} {T : (A0 × A1 × A2 × A3 × A4 × A5 × A6 × A7 × A8 → Option R) → A0 × A1 × A2 × A3 × A4 × A5 × A6 × A7 × A8 → Option R} (Inv : A0 → A1 → A2 → A3 → A4 → A5 → A6 → A7 → A8 → Prop) (μ : A0 → A1 → A2 → A3 → A4 → A5 → A6 → A7 → A8 → Nat) (r : A0 → A1 → A2 → A3 → A4 → A5 → A6 → A7 → A8 → R)
    (h : ∀ a0 a1 a2 a3 a4 a5 a6 a7 a8 K, Inv a0 a1 a2 a3 a4 a5 a6 a7 a8 → (∀ b0 b1 b2 b3 b4 b5 b6 b7 b8, Inv b0 b1 b2 b3 b4 b5 b6 b7 b8 → μ b0 b1 b2 b3 b4 b5 b6 b7 b8 < μ a0 a1 a2 a3 a4 a5 a6 a7 a8 → K (b0, b1, b2, b3, b4, b5, b6, b7, b8) = some (r b0 b1 b2 b3 b4 b5 b6 b7 b8)) → T K (a0, a1, a2, a3, a4, a5, a6, a7, a8) = some (r a0 a1 a2 a3 a4 a5 a6 a7 a8)) (m : Nat) (a0 a1 a2 a3 a4 a5 a6 a7 a8) (hi : Inv a0 a1 a2 a3 a4 a5 a6 a7 a8) (hm : μ a0 a1 a2 a3 a4 a5 a6 a7 a8 < m) : fixL T m (a0, a1, a2, a3, a4, a5, a6, a7, a8) = some (r a0 a1 a2 a3 a4 a5 a6 a7 a8) :=
  fixL_ok (fun | (a0, a1, a2, a3, a4, a5, a6, a7, a8) => Inv a0 a1 a2 a3 a4 a5 a6 a7 a8) (fun | (a0, a1, a2, a3, a4, a5, a6, a7, a8) => μ a0 a1 a2 a3 a4 a5 a6 a7 a8) (fun | (a0, a1, a2, a3, a4, a5, a6, a7, a8) => r a0 a1 a2 a3 a4 a5 a6 a7 a8) (fun | (a0, a1, a2, a3, a4, a5, a6, a7, a8), K, hi, hK => h a0 a1 a2 a3 a4 a5 a6 a7 a8 K hi fun b0 b1 b2 b3 b4 b5 b6 b7 b8 hj hlt => hK (b0, b1, b2, b3, b4, b5, b6, b7, b8) hj hlt) m (a0, a1, a2, a3, a4, a5, a6, a7, a8) hi hm
theorem fix10 {A0 A1 A2 A3 A4 A5 A6 A7 A8 A9 R : Type} {T : (A0 × A1 × A2 × A3 × A4 × A5 × A6 × A7 × A8 × A9 → Option R) → A0 × A1 × A2 × A3 × A4 × A5 × A6 × A7 × A8 × A9 → Option R} (Inv : A0 → A1 → A2 → A3 → A4 → A5 → A6 → A7 → A8 → A9 → Prop) (μ : A0 → A1 → A2 → A3 → A4 → A5 → A6 → A7 → A8 → A9 → Nat) (r : A0 → A1 → A2 → A3 → A4 → A5 → A6 → A7 → A8 → A9 → R)
    (h : ∀ a0 a1 a2 a3 a4 a5 a6 a7 a8 a9 K, Inv a0 a1 a2 a3 a4 a5 a6 a7 a8 a9 → (∀ b0 b1 b2 b3 b4 b5 b6 b7 b8 b9, Inv b0 b1 b2 b3 b4 b5 b6 b7 b8 b9 → μ b0 b1 b2 b3 b4 b5 b6 b7 b8 b9 < μ a0 a1 a2 a3 a4 a5 a6 a7 a8 a9 → K (b0, b1, b2, b3, b4, b5, b6, b7, b8, b9) = some (r b0 b1 b2 b3 b4 b5 b6 b7 b8 b9)) → T K (a0, a1, a2, a3, a4, a5, a6, a7, a8, a9) = some (r a0 a1 a2 a3 a4 a5 a6 a7 a8 a9)) (m : Nat) (a0 a1 a2 a3 a4 a5 a6 a7 a8 a9) (hi : Inv a0 a1 a2 a3 a4 a5 a6 a7 a8 a9) (hm : μ a0 a1 a2 a3 a4 a5 a6 a7 a8 a9 < m) : fixL T m (a0, a1, a2, a3, a4, a5, a6, a7, a8, a9) = some (r a0 a1 a2 a3 a4 a5 a6 a7 a8 a9) :=
  fixL_ok (fun | (a0, a1, a2, a3, a4, a5, a6, a7, a8, a9) => Inv a0 a1 a2 a3 a4 a5 a6 a7 a8 a9) (fun | (a0, a1, a2, a3, a4, a5, a6, a7, a8, a9) => μ a0 a1 a2 a3 a4 a5 a6 a7 a8 a9) (fun | (a0, a1, a2, a3, a4, a5, a6, a7, a8, a9) => r a0 a1 a2 a3 a4 a5 a6 a7 a8 a9) (fun | (a0, a1, a2, a3, a4, a5, a6, a7, a8, a9), K, hi, hK => h a0 a1 a2 a3 a4 a5 a6 a7 a8 a9 K hi fun b0 b1 b2 b3 b4 b5 b6 b7 b8 b9 hj hlt => hK (b0, b1, b2, b3, b4, b5, b6, b7, b8, b9) hj hlt) m (a0, a1, a2, a3, a4, a5, a6, a7, a8, a9) hi hm
theorem fix11 {A0 A1 A2 A3 A4 A5 A6 A7 A8 A9 A10 R : Type} {T : (A0 × A1 × A2 × A3 × A4 × A5 × A6 × A7 × A8 × A9 × A10 → Option R) → A0 × A1 × A2 × A3 × A4 × A5 × A6 × A7 × A8 × A9 × A10 → Option R} (Inv : A0 → A1 → A2 → A3 → A4 → A5 → A6 → A7 → A8 → A9 → A10 → Prop) (μ : A0 → A1 → A2 → A3 → A4 → A5 → A6 → A7 → A8 → A9 → A10 → Nat) (r : A0 → A1 → A2 → A3 → A4 → A5 → A6 → A7 → A8 → A9 → A10 → R)
    (h : ∀ a0 a1 a2 a3 a4 a5 a6 a7 a8 a9 a10 K, Inv a0 a1 a2 a3 a4 a5 a6 a7 a8 a9 a10 → (∀ b0 b1 b2 b3 b4 b5 b6 b7 b8 b9 b10, Inv b0 b1 b2 b3 b4 b5 b6 b7 b8 b9 b10 → μ b0 b1 b2 b3 b4 b5 b6 b7 b8 b9 b10 < μ a0 a1 a2 a3 a4 a5 a6 a7 a8 a9 a10 → K (b0, b1, b2, b3, b4, b5, b6, b7, b8, b9, b10) = some (r b0 b1 b2 b3 b4 b5 b6 b7 b8 b9 b10)) → T K (a0, a1, a2, a3, a4, a5, a6, a7, a8, a9, a10) = some (r a0 a1 a2 a3 a4 a5 a6 a7 a8 a9 a10)) (m : Nat) (a0 a1 a2 a3 a4 a5 a6 a7 a8 a9 a10) (hi : Inv a0 a1 a2 a3 a4 a5 a6 a7 a8 a9 a10) (hm : μ a0 a1 a2 a3 a4 a5 a6 a7 a8 a9 a10 < m) : fixL T m (a0, a1, a2, a3, a4, a5, a6, a7, a8, a9, a10) = some (r a0 a1 a2 a3 a4 a5 a6 a7 a8 a9 a10) :=
  fixL_ok (fun | (a0, a1, a2, a3, a4, a5, a6, a7, a8, a9, a10) => Inv a0 a1 a2 a3 a4 a5 a6 a7 a8 a9 a10) (fun | (a0, a1, a2, a3, a4, a5, a6, a7, a8, a9, a10) => μ a0 a1 a2 a3 a4 a5 a6 a7 a8 a9 a10) (fun | (a0, a1, a2, a3, a4, a5, a6, a7, a8, a9, a10) => r a0 a1 a2 a3 a4 a5 a6 a7 a8 a9 a10) (fun | (a0, a1, a2, a3, a4, a5, a6, a7, a8, a9, a10), K, hi, hK => h a0 a1 a2 a3 a4 a5 a6 a7 a8 a9 a10 K hi fun b0 b1 b2 b3 b4 b5 b6 b7 b8 b9 b10 hj hlt => hK (b0, b1, b2, b3, b4, b5, b6, b7, b8, b9, b10) hj hlt) m (a0, a1, a2, a3, a4, a5, a6, a7, a8, a9, a10) hi hm
theorem fix12 {A0 A1 A2 A3 A4 A5 A6 A7 A8 A9 A10 A11 R : Type} {T : (A0 × A1 × A2 × A3 × A4 × A5 × A6 × A7 × A8 × A9 × A10 × A11 → Option R) → A0 × A1 × A2 × A3 × A4 × A5 × A6 × A7 × A8 × A9 × A10 × A11 → Option R} (Inv : A0 → A1 → A2 → A3 → A4 → A5 → A6 → A7 → A8 → A9 → A10 → A11 → Prop) (μ : A0 → A1 → A2 → A3 → A4 → A5 → A6 → A7 → A8 → A9 → A10 → A11 → Nat) (r : A0 → A1 → A2 → A3 → A4 → A5 → A6 → A7 → A8 → A9 → A10 → A11 → R)
    (h : ∀ a0 a1 a2 a3 a4 a5 a6 a7 a8 a9 a10 a11 K, Inv a0 a1 a2 a3 a4 a5 a6 a7 a8 a9 a10 a11 → (∀ b0 b1 b2 b3 b4 b5 b6 b7 b8 b9 b10 b11, Inv b0 b1 b2 b3 b4 b5 b6 b7 b8 b9 b10 b11 → μ b0 b1 b2 b3 b4 b5 b6 b7 b8 b9 b10 b11 < μ a0 a1 a2 a3 a4 a5 a6 a7 a8 a9 a10 a11 → K (b0, b1, b2, b3, b4, b5, b6, b7, b8, b9, b10, b11) = some (r b0 b1 b2 b3 b4 b5 b6 b7 b8 b9 b10 b11)) → T K (a0, a1, a2, a3, a4, a5, a6, a7, a8, a9, a10, a11) = some (r a0 a1 a2 a3 a4 a5 a6 a7 a8 a9 a10 a11)) (m : Nat) (a0 a1 a2 a3 a4 a5 a6 a7 a8 a9 a10 a11) (hi : Inv a0 a1 a2 a3 a4 a5 a6 a7 a8 a9 a10 a11) (hm : μ a0 a1 a2 a3 a4 a5 a6 a7 a8 a9 a10 a11 < m) : fixL T m (a0, a1, a2, a3, a4, a5, a6, a7, a8, a9, a10, a11) = some (r a0 a1 a2 a3 a4 a5 a6 a7 a8 a9 a10 a11) :=
  fixL_ok (fun | (a0, a1, a2, a3, a4, a5, a6, a7, a8, a9, a10, a11) => Inv a0 a1 a2 a3 a4 a5 a6 a7 a8 a9 a10 a11) (fun | (a0, a1, a2, a3, a4, a5, a6, a7, a8, a9, a10, a11) => μ a0 a1 a2 a3 a4 a5 a6 a7 a8 a9 a10 a11) (fun | (a0, a1, a2, a3, a4, a5, a6, a7, a8, a9, a10, a11) => r a0 a1 a2 a3 a4 a5 a6 a7 a8 a9 a10 a11) (fun | (a0, a1, a2, a3, a4, a5, a6, a7, a8, a9, a10, a11), K, hi, hK => h a0 a1 a2 a3 a4 a5 a6 a7 a8 a9 a10 a11 K hi fun b0 b1 b2 b3 b4 b5 b6 b7 b8 b9 b10 b11 hj hlt => hK (b0, b1, b2, b3, b4, b5, b6, b7, b8, b9, b10, b11) hj hlt) m (a0, a1, a2, a3, a4, a5, a6, a7, a8, a9, a10, a11) hi hm
theorem fixL_okO {X R : Type} {T : (X → Option R) → X → Option R} (Inv : X → Prop) (μ : X → Nat) (r : X → Option R)
    (h : ∀ x K, Inv x → (∀ y, Inv y → μ y < μ x → K y = r y) → T K x = r x) : ∀ (m : Nat) x, Inv x → μ x < m → fixL T m x = r x := by
  intro m
  induction m with
  | zero => intro x _ hm; omega
  | succ m ih => exact fun x hi hm => h x _ hi fun y hy hlt => ih y hy (by omega)
theorem fo2 {A0 A1 R : Type} {T : (A0 × A1 → Option R) → A0 × A1 → Option R} (Inv : A0 → A1 → Prop) (μ : A0 → A1 → Nat) (r : A0 → A1 → Option R)
    (h : ∀ a0 a1 K, Inv a0 a1 → (∀ b0 b1, Inv b0 b1 → μ b0 b1 < μ a0 a1 → K (b0, b1) = r b0 b1) → T K (a0, a1) = r a0 a1) (m : Nat) (a0 a1) (hi : Inv a0 a1) (hm : μ a0 a1 < m) : fixL T m (a0, a1) = r a0 a1 :=
  fixL_okO (fun | (a0, a1) => Inv a0 a1) (fun | (a0, a1) => μ a0 a1) (fun | (a0, a1) => r a0 a1) (fun | (a0, a1), K, hi, hK => h a0 a1 K hi fun b0 b1 hj hlt => hK (b0, b1) hj hlt) m (a0, a1) hi hm
theorem fo3 {A0 A1 A2 R : Type} {T : (A0 × A1 × A2 → Option R) → A0 × A1 × A2 → Option R} (Inv : A0 → A1 → A2 → Prop) (μ : A0 → A1 → A2 → Nat) (r : A0 → A1 → A2 → Option R)
    (h : ∀ a0 a1 a2 K, Inv a0 a1 a2 → (∀ b0 b1 b2, Inv b0 b1 b2 → μ b0 b1 b2 < μ a0 a1 a2 → K (b0, b1, b2) = r b0 b1 b2) → T K (a0, a1, a2) = r a0 a1 a2) (m : Nat) (a0 a1 a2) (hi : Inv a0 a1 a2) (hm : μ a0 a1 a2 < m) : fixL T m (a0, a1, a2) = r a0 a1 a2 :=
  fixL_okO (fun | (a0, a1, a2) => Inv a0 a1 a2) (fun | (a0, a1, a2) => μ a0 a1 a2) (fun | (a0, a1, a2) => r a0 a1 a2) (fun | (a0, a1, a2), K, hi, hK => h a0 a1 a2 K hi fun b0 b1 b2 hj hlt => hK (b0, b1, b2) hj hlt) m (a0, a1, a2) hi hm
theorem fo4 {A0 A1 A2 A3 R : Type} {T : (A0 × A1 × A2 × A3 → Option R) → A0 × A1 × A2 × A3 → Option R} (Inv : A0 → A1 → A2 → A3 → Prop) (μ : A0 → A1 → A2 → A3 → Nat) (r : A0 → A1 → A2 → A3 → Option R)
    (h : ∀ a0 a1 a2 a3 K, Inv a0 a1 a2 a3 → (∀ b0 b1 b2 b3, Inv b0 b1 b2 b3 → μ b0 b1 b2 b3 < μ a0 a1 a2 a3 → K (b0, b1, b2, b3) = r b0 b1 b2 b3) → T K (a0, a1, a2, a3) = r a0 a1 a2 a3) (m : Nat) (a0 a1 a2 a3) (hi : Inv a0 a1 a2 a3) (hm : μ a0 a1 a2 a3 < m) : fixL T m (a0, a1, a2, a3) = r a0 a1 a2 a3 :=
  fixL_okO (fun | (a0, a1, a2, a3) => Inv a0 a1 a2 a3) (fun | (a0, a1, a2, a3) => μ a0 a1 a2 a3) (fun | (a0, a1, a2, a3) => r a0 a1 a2 a3) (fun | (a0, a1, a2, a3), K, hi, hK => h a0 a1 a2 a3 K hi fun b0 b1 b2 b3 hj hlt => hK (b0, b1, b2, b3) hj hlt) m (a0, a1, a2, a3) hi hm
theorem fo5 {A0 A1 A2 A3 A4 R : Type} {T : (A0 × A1 × A2 × A3 × A4 → Option R) → A0 × A1 × A2 × A3 × A4 → Option R} (Inv : A0 → A1 → A2 → A3 → A4 → Prop) (μ : A0 → A1 → A2 → A3 → A4 → Nat) (r : A0 → A1 → A2 → A3 → A4 → Option R)
    (h : ∀ a0 a1 a2 a3 a4 K, Inv a0 a1 a2 a3 a4 → (∀ b0 b1 b2 b3 b4, Inv b0 b1 b2 b3 b4 → μ b0 b1 b2 b3 b4 < μ a0 a1 a2 a3 a4 → K (b0, b1, b2, b3, b4) = r b0 b1 b2 b3 b4) → T K (a0, a1, a2, a3, a4) = r a0 a1 a2 a3 a4) (m : Nat) (a0 a1 a2 a3 a4) (hi : Inv a0 a1 a2 a3 a4) (hm : μ a0 a1 a2 a3 a4 < m) : fixL T m (a0, a1, a2, a3, a4) = r a0 a1 a2 a3 a4 :=
  fixL_okO (fun | (a0, a1, a2, a3, a4) => Inv a0 a1 a2 a3 a4) (fun | (a0, a1, a2, a3, a4) => μ a0 a1 a2 a3 a4) (fun | (a0, a1, a2, a3, a4) => r a0 a1 a2 a3 a4) (fun | (a0, a1, a2, a3, a4), K, hi, hK => h a0 a1 a2 a3 a4 K hi fun b0 b1 b2 b3 b4 hj hlt => hK (b0, b1, b2, b3, b4) hj hlt) m (a0, a1, a2, a3, a4) hi hm
theorem fo6 {A0 A1 A2 A3 A4 A5 R : Type} {T : (A0 × A1 × A2 × A3 × A4 × A5 → Option R) → A0 × A1 × A2 × A3 × A4 × A5 → Option R} (Inv : A0 → A1 → A2 → A3 → A4 → A5 → Prop) (μ : A0 → A1 → A2 → A3 → A4 → A5 → Nat) (r : A0 → A1 → A2 → A3 → A4 → A5 → Option R)
    (h : ∀ a0 a1 a2 a3 a4 a5 K, Inv a0 a1 a2 a3 a4 a5 → (∀ b0 b1 b2 b3 b4 b5, Inv b0 b1 b2 b3 b4 b5 → μ b0 b1 b2 b3 b4 b5 < μ a0 a1 a2 a3 a4 a5 → K (b0, b1, b2, b3, b4, b5) = r b0 b1 b2 b3 b4 b5) → T K (a0, a1, a2, a3, a4, a5) = r a0 a1 a2 a3 a4 a5) (m : Nat) (a0 a1 a2 a3 a4 a5) (hi : Inv a0 a1 a2 a3 a4 a5) (hm : μ a0 a1 a2 a3 a4 a5 < m) : fixL T m (a0, a1, a2, a3, a4, a5) = r a0 a1 a2 a3 a4 a5 :=
  fixL_okO (fun | (a0, a1, a2, a3, a4, a5) => Inv a0 a1 a2 a3 a4 a5) (fun | (a0, a1, a2, a3, a4, a5) => μ a0 a1 a2 a3 a4 a5) (fun | (a0, a1, a2, a3, a4, a5) => r a0 a1 a2 a3 a4 a5) (fun | (a0, a1, a2, a3, a4, a5), K, hi, hK => h a0 a1 a2 a3 a4 a5 K hi fun b0 b1 b2 b3 b4 b5 hj hlt => hK (b0, b1, b2, b3, b4, b5) hj hlt) m (a0, a1, a2, a3, a4, a5) hi hm
theorem fo7 {A0 A1 A2 A3 A4 A5 A6 R : Type} {T : (A0 × A1 × A2 × A3 × A4 × A5 × A6 → Option R) → A0 × A1 × A2 × A3 × A4 × A5 × A6 → Option R} (Inv : A0 → A1 → A2 → A3 → A4 → A5 → A6 → Prop) (μ : A0 → A1 → A2 → A3 → A4 → A5 → A6 → Nat) (r : A0 → A1 → A2 → A3 → A4 → A5 → A6 → Option R)
    (h : ∀ a0 a1 a2 a3 a4 a5 a6 K, Inv a0 a1 a2 a3 a4 a5 a6 → (∀ b0 b1 b2 b3 b4 b5 b6, Inv b0 b1 b2 b3 b4 b5 b6 → μ b0 b1 b2 b3 b4 b5 b6 < μ a0 a1 a2 a3 a4 a5 a6 → K (b0, b1, b2, b3, b4, b5, b6) = r b0 b1 b2 b3 b4 b5 b6) → T K (a0, a1, a2, a3, a4, a5, a6) = r a0 a1 a2 a3 a4 a5 a6) (m : Nat) (a0 a1 a2 a3 a4 a5 a6) (hi : Inv a0 a1 a2 a3 a4 a5 a6) (hm : μ a0 a1 a2 a3 a4 a5 a6 < m) : fixL T m (a0, a1, a2, a3, a4, a5, a6) = r a0 a1 a2 a3 a4 a5 a6 :=
  fixL_okO (fun | (a0, a1, a2, a3, a4, a5, a6) => Inv a0 a1 a2 a3 a4 a5 a6) (fun | (a0, a1, a2, a3, a4, a5, a6) => μ a0 a1 a2 a3 a4 a5 a6) (fun | (a0, a1, a2, a3, a4, a5, a6) => r a0 a1 a2 a3 a4 a5 a6) (fun | (a0, a1, a2, a3, a4, a5, a6), K, hi, hK => h a0 a1 a2 a3 a4 a5 a6 K hi fun b0 b1 b2 b3 b4 b5 b6 hj hlt => hK (b0, b1, b2, b3, b4, b5, b6) hj hlt) m (a0, a1, a2, a3, a4, a5, a6) hi hm
theorem fo8 {A0 A1 A2 A3 A4 A5 A6 A7 R : Type} {T : (A0 × A1 × A2 × A3 × A4 × A5 × A6 × A7 → Option R) → A0 × A1 × A2 × A3 × A4 × A5 × A6 × A7 → Option R} (Inv : A0 → A1 → A2 → A3 → A4 → A5 → A6 → A7 → Prop) (μ : A0 → A1 → A2 → A3 → A4 → A5 → A6 → A7 → Nat) (r : A0 → A1 → A2 → A3 → A4 → A5 → A6 → A7 → Option R)
    (h : ∀ a0 a1 a2 a3 a4 a5 a6 a7 K, Inv a0 a1 a2 a3 a4 a5 a6 a7 → (∀ b0 b1 b2 b3 b4 b5 b6 b7, Inv b0 b1 b2 b3 b4 b5 b6 b7 → μ b0 b1 b2 b3 b4 b5 b6 b7 < μ a0 a1 a2 a3 a4 a5 a6 a7 → K (b0, b1, b2, b3, b4, b5, b6, b7) = r b0 b1 b2 b3 b4 b5 b6 b7) → T K (a0, a1, a2, a3, a4, a5, a6, a7) = r a0 a1 a2 a3 a4 a5 a6 a7) (m : Nat) (a0 a1 a2 a3 a4 a5 a6 a7) (hi : Inv a0 a1 a2 a3 a4 a5 a6 a7) (hm : μ a0 a1 a2 a3 a4 a5 a6 a7 < m) : fixL T m (a0, a1, a2, a3, a4, a5, a6, a7) = r a0 a1 a2 a3 a4 a5 a6 a7 :=
  fixL_okO (fun | (a0, a1, a2, a3, a4, a5, a6, a7) => Inv a0 a1 a2 a3 a4 a5 a6 a7) (fun | (a0, a1, a2, a3, a4, a5, a6, a7) => μ a0 a1 a2 a3 a4 a5 a6 a7) (fun | (a0, a1, a2, a3, a4, a5, a6, a7) => r a0 a1 a2 a3 a4 a5 a6 a7) (fun | (a0, a1, a2, a3, a4, a5, a6, a7), K, hi, hK => h a0 a1 a2 a3 a4 a5 a6 a7 K hi fun b0 b1 b2 b3 b4 b5 b6 b7 hj hlt => hK (b0, b1, b2, b3, b4, b5, b6, b7) hj hlt) m (a0, a1, a2, a3, a4, a5, a6, a7) hi hm
theorem fo9 {A0 A1 A2 A3 A4 A5 A6 A7 A8 R : Type} {T : (A0 × A1 × A2 × A3 × A4 × A5 × A6 × A7 × A8 → Option R) → A0 × A1 × A2 × A3 × A4 × A5 × A6 × A7 × A8 → Option R} (Inv : A0 → A1 → A2 → A3 → A4 → A5 → A6 → A7 → A8 → Prop) (μ : A0 → A1 → A2 → A3 → A4 → A5 → A6 → A7 → A8 → Nat) (r : A0 → A1 → A2 → A3 → A4 → A5 → A6 → A7 → A8 → Option R)
    (h : ∀ a0 a1 a2 a3 a4 a5 a6 a7 a8 K, Inv a0 a1 a2 a3 a4 a5 a6 a7 a8 → (∀ b0 b1 b2 b3 b4 b5 b6 b7 b8, Inv b0 b1 b2 b3 b4 b5 b6 b7 b8 → μ b0 b1 b2 b3 b4 b5 b6 b7 b8 < μ a0 a1 a2 a3 a4 a5 a6 a7 a8 → K (b0, b1, b2, b3, b4, b5, b6, b7, b8) = r b0 b1 b2 b3 b4 b5 b6 b7 b8) → T K (a0, a1, a2, a3, a4, a5, a6, a7, a8) = r a0 a1 a2 a3 a4 a5 a6 a7 a8) (m : Nat) (a0 a1 a2 a3 a4 a5 a6 a7 a8) (hi : Inv a0 a1 a2 a3 a4 a5 a6 a7 a8) (hm : μ a0 a1 a2 a3 a4 a5 a6 a7 a8 < m) : fixL T m (a0, a1, a2, a3, a4, a5, a6, a7, a8) = r a0 a1 a2 a3 a4 a5 a6 a7 a8 :=
  fixL_okO (fun | (a0, a1, a2, a3, a4, a5, a6, a7, a8) => Inv a0 a1 a2 a3 a4 a5 a6 a7 a8) (fun | (a0, a1, a2, a3, a4, a5, a6, a7, a8) => μ a0 a1 a2 a3 a4 a5 a6 a7 a8) (fun | (a0, a1, a2, a3, a4, a5, a6, a7, a8) => r a0 a1 a2 a3 a4 a5 a6 a7 a8) (fun | (a0, a1, a2, a3, a4, a5, a6, a7, a8), K, hi, hK => h a0 a1 a2 a3 a4 a5 a6 a7 a8 K hi fun b0 b1 b2 b3 b4 b5 b6 b7 b8 hj hlt => hK (b0, b1, b2, b3, b4, b5, b6, b7, b8) hj hlt) m (a0, a1, a2, a3, a4, a5, a6, a7, a8) hi hm
theorem fo10 {A0 A1 A2 A3 A4 A5 A6 A7 A8 A9 R : Type} {T : (A0 × A1 × A2 × A3 × A4 × A5 × A6 × A7 × A8 × A9 → Option R) → A0 × A1 × A2 × A3 × A4 × A5 × A6 × A7 × A8 × A9 → Option R} (Inv : A0 → A1 → A2 → A3 → A4 → A5 → A6 → A7 → A8 → A9 → Prop) (μ : A0 → A1 → A2 → A3 → A4 → A5 → A6 → A7 → A8 → A9 → Nat) (r : A0 → A1 → A2 → A3 → A4 → A5 → A6 → A7 → A8 → A9 → Option R)
    (h : ∀ a0 a1 a2 a3 a4 a5 a6 a7 a8 a9 K, Inv a0 a1 a2 a3 a4 a5 a6 a7 a8 a9 → (∀ b0 b1 b2 b3 b4 b5 b6 b7 b8 b9, Inv b0 b1 b2 b3 b4 b5 b6 b7 b8 b9 → μ b0 b1 b2 b3 b4 b5 b6 b7 b8 b9 < μ a0 a1 a2 a3 a4 a5 a6 a7 a8 a9 → K (b0, b1, b2, b3, b4, b5, b6, b7, b8, b9) = r b0 b1 b2 b3 b4 b5 b6 b7 b8 b9) → T K (a0, a1, a2, a3, a4, a5, a6, a7, a8, a9) = r a0 a1 a2 a3 a4 a5 a6 a7 a8 a9) (m : Nat) (a0 a1 a2 a3 a4 a5 a6 a7 a8 a9) (hi : Inv a0 a1 a2 a3 a4 a5 a6 a7 a8 a9) (hm : μ a0 a1 a2 a3 a4 a5 a6 a7 a8 a9 < m) : fixL T m (a0, a1, a2, a3, a4, a5, a6, a7, a8, a9) = r a0 a1 a2 a3 a4 a5 a6 a7 a8 a9 :=
  fixL_okO (fun | (a0, a1, a2, a3, a4, a5, a6, a7, a8, a9) => Inv a0 a1 a2 a3 a4 a5 a6 a7 a8 a9) (fun | (a0, a1, a2, a3, a4, a5, a6, a7, a8, a9) => μ a0 a1 a2 a3 a4 a5 a6 a7 a8 a9) (fun | (a0, a1, a2, a3, a4, a5, a6, a7, a8, a9) => r a0 a1 a2 a3 a4 a5 a6 a7 a8 a9) (fun | (a0, a1, a2, a3, a4, a5, a6, a7, a8, a9), K, hi, hK => h a0 a1 a2 a3 a4 a5 a6 a7 a8 a9 K hi fun b0 b1 b2 b3 b4 b5 b6 b7 b8 b9 hj hlt => hK (b0, b1, b2, b3, b4, b5, b6, b7, b8, b9) hj hlt) m (a0, a1, a2, a3, a4, a5, a6, a7, a8, a9) hi hm
theorem fo11 {A0 A1 A2 A3 A4 A5 A6 A7 A8 A9 A10 R : Type} {T : (A0 × A1 × A2 × A3 × A4 × A5 × A6 × A7 × A8 × A9 × A10 → Option R) → A0 × A1 × A2 × A3 × A4 × A5 × A6 × A7 × A8 × A9 × A10 → Option R} (Inv : A0 → A1 → A2 → A3 → A4 → A5 → A6 → A7 → A8 → A9 → A10 → Prop) (μ : A0 → A1 → A2 → A3 → A4 → A5 → A6 → A7 → A8 → A9 → A10 → Nat) (r : A0 → A1 → A2 → A3 → A4 → A5 → A6 → A7 → A8 → A9 → A10 → Option R)
    (h : ∀ a0 a1 a2 a3 a4 a5 a6 a7 a8 a9 a10 K, Inv a0 a1 a2 a3 a4 a5 a6 a7 a8 a9 a10 → (∀ b0 b1 b2 b3 b4 b5 b6 b7 b8 b9 b10, Inv b0 b1 b2 b3 b4 b5 b6 b7 b8 b9 b10 → μ b0 b1 b2 b3 b4 b5 b6 b7 b8 b9 b10 < μ a0 a1 a2 a3 a4 a5 a6 a7 a8 a9 a10 → K (b0, b1, b2, b3, b4, b5, b6, b7, b8, b9, b10) = r b0 b1 b2 b3 b4 b5 b6 b7 b8 b9 b10) → T K (a0, a1, a2, a3, a4, a5, a6, a7, a8, a9, a10) = r a0 a1 a2 a3 a4 a5 a6 a7 a8 a9 a10) (m : Nat) (a0 a1 a2 a3 a4 a5 a6 a7 a8 a9 a10) (hi : Inv a0 a1 a2 a3 a4 a5 a6 a7 a8 a9 a10) (hm : μ a0 a1 a2 a3 a4 a5 a6 a7 a8 a9 a10 < m) : fixL T m (a0, a1, a2, a3, a4, a5, a6, a7, a8, a9, a10) = r a0 a1 a2 a3 a4 a5 a6 a7 a8 a9 a10 :=
  fixL_okO (fun | (a0, a1, a2, a3, a4, a5, a6, a7, a8, a9, a10) => Inv a0 a1 a2 a3 a4 a5 a6 a7 a8 a9 a10) (fun | (a0, a1, a2, a3, a4, a5, a6, a7, a8, a9, a10) => μ a0 a1 a2 a3 a4 a5 a6 a7 a8 a9 a10) (fun | (a0, a1, a2, a3, a4, a5, a6, a7, a8, a9, a10) => r a0 a1 a2 a3 a4 a5 a6 a7 a8 a9 a10) (fun | (a0, a1, a2, a3, a4, a5, a6, a7, a8, a9, a10), K, hi, hK => h a0 a1 a2 a3 a4 a5 a6 a7 a8 a9 a10 K hi fun b0 b1 b2 b3 b4 b5 b6 b7 b8 b9 b10 hj hlt => hK (b0, b1, b2, b3, b4, b5, b6, b7, b8, b9, b10) hj hlt) m (a0, a1, a2, a3, a4, a5, a6, a7, a8, a9, a10) hi hm
theorem fo12 {A0 A1 A2 A3 A4 A5 A6 A7 A8 A9 A10 A11 R : Type} {T : (A0 × A1 × A2 × A3 × A4 × A5 × A6 × A7 × A8 × A9 × A10 × A11 → Option R) → A0 × A1 × A2 × A3 × A4 × A5 × A6 × A7 × A8 × A9 × A10 × A11 → Option R} (Inv : A0 → A1 → A2 → A3 → A4 → A5 → A6 → A7 → A8 → A9 → A10 → A11 → Prop) (μ : A0 → A1 → A2 → A3 → A4 → A5 → A6 → A7 → A8 → A9 → A10 → A11 → Nat) (r : A0 → A1 → A2 → A3 → A4 → A5 → A6 → A7 → A8 → A9 → A10 → A11 → Option R)
    (h : ∀ a0 a1 a2 a3 a4 a5 a6 a7 a8 a9 a10 a11 K, Inv a0 a1 a2 a3 a4 a5 a6 a7 a8 a9 a10 a11 → (∀ b0 b1 b2 b3 b4 b5 b6 b7 b8 b9 b10 b11, Inv b0 b1 b2 b3 b4 b5 b6 b7 b8 b9 b10 b11 → μ b0 b1 b2 b3 b4 b5 b6 b7 b8 b9 b10 b11 < μ a0 a1 a2 a3 a4 a5 a6 a7 a8 a9 a10 a11 → K (b0, b1, b2, b3, b4, b5, b6, b7, b8, b9, b10, b11) = r b0 b1 b2 b3 b4 b5 b6 b7 b8 b9 b10 b11) → T K (a0, a1, a2, a3, a4, a5, a6, a7, a8, a9, a10, a11) = r a0 a1 a2 a3 a4 a5 a6 a7 a8 a9 a10 a11) (m : Nat) (a0 a1 a2 a3 a4 a5 a6 a7 a8 a9 a10 a11) (hi : Inv a0 a1 a2 a3 a4 a5 a6 a7 a8 a9 a10 a11) (hm : μ a0 a1 a2 a3 a4 a5 a6 a7 a8 a9 a10 a11 < m) : fixL T m (a0, a1, a2, a3, a4, a5, a6, a7, a8, a9, a10, a11) = r a0 a1 a2 a3 a4 a5 a6 a7 a8 a9 a10 a11 :=
  fixL_okO (fun | (a0, a1, a2, a3, a4, a5, a6, a7, a8, a9, a10, a11) => Inv a0 a1 a2 a3 a4 a5 a6 a7 a8 a9 a10 a11) (fun | (a0, a1, a2, a3, a4, a5, a6, a7, a8, a9, a10, a11) => μ a0 a1 a2 a3 a4 a5 a6 a7 a8 a9 a10 a11) (fun | (a0, a1, a2, a3, a4, a5, a6, a7, a8, a9, a10, a11) => r a0 a1 a2 a3 a4 a5 a6 a7 a8 a9 a10 a11) (fun | (a0, a1, a2, a3, a4, a5, a6, a7, a8, a9, a10, a11), K, hi, hK => h a0 a1 a2 a3 a4 a5 a6 a7 a8 a9 a10 a11 K hi fun b0 b1 b2 b3 b4 b5 b6 b7 b8 b9 b10 b11 hj hlt => hK (b0, b1, b2, b3, b4, b5, b6, b7, b8, b9, b10, b11) hj hlt) m (a0, a1, a2, a3, a4, a5, a6, a7, a8, a9, a10, a11) hi hm
/-- Is it so? -/
noncomputable def cdec (p : Prop) : Bool := @decide p (Classical.propDecidable p)
theorem cdec_iff {p : Prop} : cdec p = true ↔ p := by
  unfold cdec
  exact @decide_eq_true_iff _ (Classical.propDecidable _)
theorem cdec_t {p : Prop} (h : p) : cdec p = true := cdec_iff.2 h
theorem cdec_f {p : Prop} (h : ¬ p) : cdec p = false := by
  cases hc : cdec p with
  | false => rfl
  | true => exact absurd (cdec_iff.1 hc) h
theorem cdec_congr {p q : Prop} (h : p ↔ q) : cdec p = cdec q := bool_eq (by rw [cdec_iff, cdec_iff, h])
theorem cdec_dec {p : Prop} [Decidable p] : cdec p = decide p := bool_eq (by rw [cdec_iff, decide_eq_true_iff])
/-! ### Data at calls -/
abbrev I (n : Int) : DA := .c (.sc (.int .i64 n))
abbrev U (n : Int) : DA := .c (.sc (.int .u32 n))
abbrev B (b : Bool) : DA := .c (.sc (.bool b))
abbrev T (s : ByteArray) : DA := .c (.sc (.string s))
abbrev Is (l : List Int) : DA := .c (.row (.ints .i64 l))
abbrev Bs (l : List Int) : DA := .c (.row (.ints .u8 l))
abbrev Ts (l : List ByteArray) : DA := .c (.row (.strs l))
abbrev Es (l : List (List Int × ByteArray)) : DA := .c (.row (.eqs l))
abbrev So (c z : Int) (es : List (List Int × ByteArray)) : DA := .agg [.sc (.int .i64 c), .sc (.int .i64 z), .row (.eqs es)]
abbrev Eq1 (r : List Int) (d : ByteArray) : DA := .agg [.row (.ints .i64 r), .sc (.string d)]
abbrev rdC (b : List Int) (p : Int) : List SC := [.row (.ints .u8 b), .sc (.int .i64 p)]
abbrev Rd1 (b : List Int) (p : Int) : DA := .bx (rdC b p)
abbrev Pl (long size : Int) (win wgt : List Int) : DA := .agg [.sc (.int .i64 long), .sc (.int .i64 size), .row (.ints .i64 win), .row (.ints .i64 wgt)]
/-- Small: what lists and texts measure. -/
abbrev sm (n : Nat) : Bool := decide (n < 1000000000)
/-! ### Rows -/
/-! Rows as ascending lists, and as bits. -/
theorem asc_ext : ∀ {a b : List Int}, a.Pairwise (· < ·) → b.Pairwise (· < ·) → (∀ z, z ∈ a ↔ z ∈ b) → a = b
  | [], [], _, _, _ => rfl
  | [], y :: b, _, _, h => by have := (h y).2 List.mem_cons_self; cases this
  | x :: a, [], _, _, h => by have := (h x).1 List.mem_cons_self; cases this
  | x :: a, y :: b, ha, hb, h => by
    rw [List.pairwise_cons] at ha hb
    have e : x = y := by
      have h1 := (h x).1 List.mem_cons_self
      have h2 := (h y).2 List.mem_cons_self
      rcases List.mem_cons.1 h1 with h1 | h1
      · exact h1
      · rcases List.mem_cons.1 h2 with h2 | h2
        · exact h2.symm
        · have := ha.1 y h2
          have := hb.1 x h1
          omega
    subst e
    congr 1
    refine asc_ext ha.2 hb.2 fun z => ?_
    constructor
    · intro hz
      have h1 := (h z).1 (List.mem_cons_of_mem _ hz)
      rcases List.mem_cons.1 h1 with h1 | h1
      · have := ha.1 z hz
        omega
      · exact h1
    · intro hz
      have h1 := (h z).2 (List.mem_cons_of_mem _ hz)
      rcases List.mem_cons.1 h1 with h1 | h1
      · have := hb.1 z hz
        omega
      · exact h1
/-- What is in just one of two ascending lists. -/
def xorL : List Int → List Int → List Int
  | [], b => b
  | x :: a, [] => x :: a
  | x :: a, y :: b => if x < y then x :: xorL a (y :: b) else if y < x then y :: xorL (x :: a) b else xorL a b
termination_by a b => a.length + b.length
theorem xorL_nil_left (b : List Int) : xorL [] b = b := by unfold xorL; rfl
theorem xorL_nil_right (a : List Int) : xorL a [] = a := by cases a <;> simp [xorL]
theorem xorL_cons (x y : Int) (a b : List Int) : xorL (x :: a) (y :: b) = if x < y then x :: xorL a (y :: b) else if y < x then y :: xorL (x :: a) b else xorL a b := by rw [xorL]
theorem xorL_mem (a b : List Int) (ha : a.Pairwise (· < ·)) (hb : b.Pairwise (· < ·)) : (∀ z, z ∈ xorL a b ↔ ¬ (z ∈ a ↔ z ∈ b)) ∧ (xorL a b).Pairwise (· < ·) := by
  induction hn : a.length + b.length using Nat.strongRecOn generalizing a b with
  | _ n ih =>
  match a, b with
  | [], b => rw [xorL_nil_left]; exact ⟨fun z => by simp, hb⟩
  | x :: a, [] => rw [xorL_nil_right]; exact ⟨fun z => by by_cases h : z ∈ x :: a <;> simp only [h, List.not_mem_nil] <;> simp, ha⟩
  | x :: a, y :: b =>
    have ha' := List.pairwise_cons.1 ha
    have hb' := List.pairwise_cons.1 hb
    rw [xorL_cons]
    simp only [List.length_cons] at hn
    by_cases h1 : x < y
    · rw [if_pos h1]
      obtain ⟨im, ip⟩ := ih _ (by simp only [List.length_cons]; omega) a (y :: b) ha'.2 hb rfl
      have hxb : ∀ z ∈ y :: b, x < z := fun z hz => by
        rcases List.mem_cons.1 hz with rfl | hz
        · exact h1
        · have := hb'.1 z hz; omega
      refine ⟨fun z => ?_, List.pairwise_cons.2 ⟨fun z hz => ?_, ip⟩⟩
      · rw [List.mem_cons, im, List.mem_cons (a := z) (b := x)]
        by_cases hz : z = x
        · subst hz
          have : z ∉ y :: b := fun h => by have := hxb z h; omega
          simp [this]
        · simp [hz]
      · have h2 := (im z).1 hz
        by_cases hza : z ∈ a
        · exact ha'.1 z hza
        · by_cases hzb : z ∈ y :: b
          · exact hxb z hzb
          · exact absurd (by simp only [hza, hzb]) h2
    · rw [if_neg h1]
      by_cases h2 : y < x
      · rw [if_pos h2]
        obtain ⟨im, ip⟩ := ih _ (by simp only [List.length_cons]; omega) (x :: a) b ha hb'.2 rfl
        have hya : ∀ z ∈ x :: a, y < z := fun z hz => by
          rcases List.mem_cons.1 hz with rfl | hz
          · exact h2
          · have := ha'.1 z hz; omega
        refine ⟨fun z => ?_, List.pairwise_cons.2 ⟨fun z hz => ?_, ip⟩⟩
        · rw [List.mem_cons, im, List.mem_cons (a := z) (b := y)]
          by_cases hz : z = y
          · subst hz
            have : z ∉ x :: a := fun h => by have := hya z h; omega
            simp [this]
          · simp [hz]
        · have h3 := (im z).1 hz
          by_cases hza : z ∈ x :: a
          · exact hya z hza
          · by_cases hzb : z ∈ b
            · exact hb'.1 z hzb
            · exact absurd (by simp only [hza, hzb]) h3
      · rw [if_neg h2]
        have e : x = y := by omega
        subst e
        obtain ⟨im, ip⟩ := ih _ (by omega) a b ha'.2 hb'.2 rfl
        refine ⟨fun z => ?_, ip⟩
        rw [im, List.mem_cons, List.mem_cons]
        by_cases hz : z = x
        · subst hz
          have h4 : z ∉ a := fun h => by have := ha'.1 z h; omega
          have h5 : z ∉ b := fun h => by have := hb'.1 z h; omega
          simp [h4, h5]
        · simp [hz]
/-- A row's bits. -/
def maskN (l : List Int) : Nat := l.foldl (fun m n => m ||| 2 ^ n.toNat) 0
def maskFrom (m : Nat) (l : List Int) : Nat := l.foldl (fun m n => m ||| 2 ^ n.toNat) m
theorem maskFrom_bit (l : List Int) (h : ∀ x ∈ l, 0 ≤ x) : ∀ (m j : Nat), (maskFrom m l).testBit j = (m.testBit j || decide ((j : Int) ∈ l)) := by
  induction l with
  | nil => intro m j; simp [maskFrom]
  | cons x l ih =>
    intro m j
    have := ih (fun y hy => h y (List.mem_cons_of_mem _ hy)) (m ||| 2 ^ x.toNat) j
    show (maskFrom (m ||| 2 ^ x.toNat) l).testBit j = _
    rw [this, Nat.testBit_or, Nat.testBit_two_pow]
    have hx := h x List.mem_cons_self
    have e : decide (x.toNat = j) = decide ((j : Int) = x) := by
      apply decide_eq_decide.2
      omega
    rw [e]
    simp [Bool.or_assoc, List.mem_cons]
theorem maskN_bit (l : List Int) (h : ∀ x ∈ l, 0 ≤ x) (j : Nat) : (maskN l).testBit j = decide ((j : Int) ∈ l) := by
  have := maskFrom_bit l h 0 j
  simpa [maskFrom, maskN] using this
theorem maskFrom_lt (l : List Int) (c : Nat) (h : ∀ x ∈ l, 0 ≤ x ∧ x < c) : ∀ m, m < 2 ^ c → maskFrom m l < 2 ^ c := by
  induction l with
  | nil => intro m hm; simpa [maskFrom] using hm
  | cons x l ih =>
    intro m hm
    have hx := h x List.mem_cons_self
    exact ih (fun y hy => h y (List.mem_cons_of_mem _ hy)) _ (Nat.or_lt_two_pow hm (Nat.pow_lt_pow_right (by decide) (by omega)))
theorem maskN_lt (l : List Int) (c : Nat) (h : ∀ x ∈ l, 0 ≤ x ∧ x < c) : maskN l < 2 ^ c := maskFrom_lt l c h 0 (Nat.two_pow_pos c)
/-- The row of bits. -/
def rowN (m : Nat) : List Int := ((List.range 24).filter fun j => m.testBit j).map fun j : Nat => (j : Int)
theorem rowN_mem (m : Nat) (z : Int) : z ∈ rowN m ↔ 0 ≤ z ∧ z < 24 ∧ m.testBit z.toNat = true := by
  unfold rowN
  simp only [List.mem_map, List.mem_filter, List.mem_range]
  constructor
  · rintro ⟨j, ⟨h1, h2⟩, rfl⟩
    exact ⟨by omega, by omega, by simpa using h2⟩
  · rintro ⟨h0, h1, h2⟩
    exact ⟨z.toNat, ⟨by omega, h2⟩, by omega⟩
theorem rowN_asc (m : Nat) : (rowN m).Pairwise (· < ·) := by
  unfold rowN
  rw [List.pairwise_map]
  refine List.Pairwise.imp (R := (· < ·)) (fun {a b} h => by omega) ?_
  exact List.Pairwise.filter _ List.pairwise_lt_range
theorem rowN_maskN (l : List Int) (ha : l.Pairwise (· < ·)) (h : ∀ x ∈ l, 0 ≤ x ∧ x < 24) : rowN (maskN l) = l := by
  refine asc_ext (rowN_asc _) ha fun z => ?_
  rw [rowN_mem, maskN_bit l (fun x hx => (h x hx).1)]
  constructor
  · rintro ⟨h0, _, h2⟩
    rw [Int.toNat_of_nonneg h0] at h2
    simpa using h2
  · intro hz
    have := h z hz
    refine ⟨this.1, this.2, ?_⟩
    rw [Int.toNat_of_nonneg this.1]
    simpa using hz
theorem maskN_rowN (m : Nat) (h : m < 2 ^ 24) : maskN (rowN m) = m := by
  refine Nat.eq_of_testBit_eq fun j => ?_
  rw [maskN_bit _ (fun x hx => ((rowN_mem m x).1 hx).1)]
  rcases Nat.lt_or_ge j 24 with hj | hj
  · cases hb : m.testBit j
    · rw [decide_eq_false_iff_not, rowN_mem]
      simp [hb]
    · rw [decide_eq_true_iff, rowN_mem]
      exact ⟨by omega, by omega, by simpa using hb⟩
  · rw [Nat.testBit_lt_two_pow (Nat.lt_of_lt_of_le h (Nat.pow_le_pow_right (by decide) hj)), decide_eq_false_iff_not, rowN_mem]
    omega
theorem xorL_rowN (a b : List Int) (ha : a.Pairwise (· < ·)) (hb : b.Pairwise (· < ·)) (ha' : ∀ x ∈ a, 0 ≤ x ∧ x < 24) (hb' : ∀ x ∈ b, 0 ≤ x ∧ x < 24) : rowN (maskN a ^^^ maskN b) = xorL a b := by
  obtain ⟨hm, hp⟩ := xorL_mem a b ha hb
  refine asc_ext (rowN_asc _) hp fun z => ?_
  rw [rowN_mem, hm, Nat.testBit_xor, maskN_bit a (fun x hx => (ha' x hx).1), maskN_bit b (fun x hx => (hb' x hx).1)]
  constructor
  · rintro ⟨h0, _, h2⟩
    rw [Int.toNat_of_nonneg h0] at h2
    by_cases h3 : z ∈ a <;> by_cases h4 : z ∈ b <;> simp_all
  · intro h
    have h0 : 0 ≤ z ∧ z < 24 := by
      by_cases h3 : z ∈ a
      · exact ha' z h3
      · by_cases h4 : z ∈ b
        · exact hb' z h4
        · simp [h3, h4] at h
    refine ⟨h0.1, h0.2, ?_⟩
    rw [Int.toNat_of_nonneg h0.1]
    by_cases h3 : z ∈ a <;> by_cases h4 : z ∈ b <;> simp_all
theorem xorL_in (a b : List Int) (ha : a.Pairwise (· < ·)) (hb : b.Pairwise (· < ·)) (c : Int) (ha' : ∀ x ∈ a, 0 ≤ x ∧ x < c) (hb' : ∀ x ∈ b, 0 ≤ x ∧ x < c) : ∀ x ∈ xorL a b, 0 ≤ x ∧ x < c := by
  intro x hx
  have := ((xorL_mem a b ha hb).1 x).1 hx
  by_cases h3 : x ∈ a
  · exact ha' x h3
  · by_cases h4 : x ∈ b
    · exact hb' x h4
    · simp [h3, h4] at this
theorem asc_length (a : List Int) (ha : a.Pairwise (· < ·)) (c : Nat) (h : ∀ x ∈ a, 0 ≤ x ∧ x < c) : a.length ≤ c := by
  have key : ∀ (l : List Int) (lo : Int), l.Pairwise (· < ·) → (∀ x ∈ l, lo ≤ x ∧ x < c) → (l.length : Int) ≤ max 0 (c - lo) := by
    intro l
    induction l with
    | nil => intro lo _ _; simp; omega
    | cons x l ih =>
      intro lo hp hx
      have hp' := List.pairwise_cons.1 hp
      have := ih (x + 1) hp'.2 fun y hy => ⟨by have := hp'.1 y hy; omega, (hx y (List.mem_cons_of_mem _ hy)).2⟩
      have h0 := hx x List.mem_cons_self
      simp only [List.length_cons]
      omega
  have := key a 0 ha h
  omega

/-! ### Bits of 32 -/
theorem shl32 (n : Int) (h0 : 0 ≤ n) (h1 : n < 32) : IntKind.wrap .u32 (1 * 2 ^ min n.toNat (IntKind.bits .u32)) = ((2 ^ n.toNat : Nat) : Int) := by
  have e : min n.toNat (IntKind.bits .u32) = n.toNat := Nat.min_eq_left (show n.toNat ≤ 32 by omega)
  rw [e, Int.one_mul]
  have h2 : 2 ^ n.toNat < 2 ^ 32 := Nat.pow_lt_pow_right (by decide) (by omega)
  have h3 : ((2 : Int) ^ n.toNat) = ((2 ^ n.toNat : Nat) : Int) := by rw [Int.natCast_pow]; rfl
  rw [h3]
  exact u32wrap (Int.natCast_nonneg _) (by have h4 := Int.ofNat_lt.2 h2; exact h4)
theorem or32 (a b : Nat) (ha : a < 2 ^ 32) (hb : b < 2 ^ 32) : IntKind.wrap .u32 ↑(BitVec.toNat (BitVec.ofInt (IntKind.bits .u32) (a : Int) ||| BitVec.ofInt (IntKind.bits .u32) (b : Int))) = ((a ||| b : Nat) : Int) := by
  have hc := Nat.or_lt_two_pow ha hb
  simp only [BitVec.ofInt_natCast, BitVec.toNat_or, BitVec.toNat_ofNat]
  rw [Nat.mod_eq_of_lt (show a < 2 ^ IntKind.u32.bits from ha), Nat.mod_eq_of_lt (show b < 2 ^ IntKind.u32.bits from hb)]
  exact u32wrap (by omega) (by omega)
theorem xor32 (a b : Nat) (ha : a < 2 ^ 32) (hb : b < 2 ^ 32) : IntKind.wrap .u32 ↑(BitVec.toNat (BitVec.ofInt (IntKind.bits .u32) (a : Int) ^^^ BitVec.ofInt (IntKind.bits .u32) (b : Int))) = ((a ^^^ b : Nat) : Int) := by
  have hc := Nat.xor_lt_two_pow ha hb
  simp only [BitVec.ofInt_natCast, BitVec.toNat_xor, BitVec.toNat_ofNat]
  rw [Nat.mod_eq_of_lt (show a < 2 ^ IntKind.u32.bits from ha), Nat.mod_eq_of_lt (show b < 2 ^ IntKind.u32.bits from hb)]
  exact u32wrap (by omega) (by omega)
theorem and32 (a b : Nat) (ha : a < 2 ^ 32) (hb : b < 2 ^ 32) : IntKind.wrap .u32 ↑(BitVec.toNat (BitVec.ofInt (IntKind.bits .u32) (a : Int) &&& BitVec.ofInt (IntKind.bits .u32) (b : Int))) = ((a &&& b : Nat) : Int) := by
  have hc := Nat.and_lt_two_pow a hb
  simp only [BitVec.ofInt_natCast, BitVec.toNat_and, BitVec.toNat_ofNat]
  rw [Nat.mod_eq_of_lt (show a < 2 ^ IntKind.u32.bits from ha), Nat.mod_eq_of_lt (show b < 2 ^ IntKind.u32.bits from hb)]
  exact u32wrap (by omega) (by omega)
theorem bit32 (m : Nat) (hm : m < 2 ^ 32) (n : Int) (h0 : 0 ≤ n) (h1 : n < 32) : (IntKind.wrap .u32 ↑(BitVec.toNat (BitVec.ofInt (IntKind.bits .u32) (Int.fdiv (m : Int) (2 ^ min n.toNat (IntKind.bits .u32))) &&& BitVec.ofInt (IntKind.bits .u32) 1)) == 1) = m.testBit n.toNat := by
  have e : min n.toNat (IntKind.bits .u32) = n.toNat := Nat.min_eq_left (show n.toNat ≤ 32 by omega)
  have e2 : Int.fdiv (m : Int) (2 ^ n.toNat) = ((m >>> n.toNat : Nat) : Int) := by
    rw [Int.fdiv_eq_ediv_of_nonneg _ (Int.pow_nonneg (by decide)), Nat.shiftRight_eq_div_pow, Int.natCast_ediv, Int.natCast_pow]; rfl
  rw [e, e2]
  have h := and32 (m >>> n.toNat) 1 (Nat.lt_of_le_of_lt (Nat.shiftRight_le _ _) hm) (by decide)
  rw [show ((1 : Nat) : Int) = 1 from rfl] at h
  rw [h, Nat.and_one_is_mod, Nat.shiftRight_eq_div_pow, ← Nat.toNat_testBit]
  cases m.testBit n.toNat <;> rfl
/-! ### Blocks -/
def bA (a : ByteArray) (j : Nat) : Nat := (a.data.toList.getD j 0).toNat
def xorB (a b : ByteArray) : ByteArray := ⟨(List.zipWith (· ^^^ ·) a.data.toList b.data.toList).toArray⟩
theorem bt_bA (a : ByteArray) (i : Int) : bt a i = ((bA a i.toNat : Nat) : Int) := rfl
theorem xorB_size (a b : ByteArray) (h : a.size ≤ b.size) : (xorB a b).size = a.size := by
  show (List.zipWith (· ^^^ ·) a.data.toList b.data.toList).length = a.data.size
  have h' : a.data.size ≤ b.data.size := h
  rw [List.length_zipWith, Array.length_toList, Array.length_toList, Nat.min_eq_left h']
theorem bA_xorB (a b : ByteArray) (j : Nat) (h : j < a.size) (hs : a.size ≤ b.size) : bA (xorB a b) j = bA a j ^^^ bA b j := by
  have ha : j < a.data.toList.length := by simpa using h
  have hb : j < b.data.toList.length := by
    have e : b.data.toList.length = b.size := Array.length_toList
    omega
  unfold bA xorB
  simp only [List.getD_eq_getElem?_getD, List.getElem?_zipWith, List.getElem?_eq_getElem ha, List.getElem?_eq_getElem hb]
  exact UInt8.toNat_xor _ _
theorem bA_lt (a : ByteArray) (j : Nat) : bA a j < 256 := by
  unfold bA
  exact UInt8.toNat_lt _
theorem ba_ext {a b : ByteArray} (h : a.size = b.size) (hj : ∀ j, j < a.size → bA a j = bA b j) : a = b := by
  apply ByteArray.ext
  apply Array.toList_inj.1
  have hs : a.data.toList.length = b.data.toList.length := by
    rw [Array.length_toList, Array.length_toList]
    exact h
  refine List.ext_getElem hs fun j h1 h2 => ?_
  have h3 : j < a.size := by
    rw [Array.length_toList] at h1
    exact h1
  have h4 := hj j h3
  unfold bA at h4
  rw [List.getD_eq_getElem?_getD, List.getD_eq_getElem?_getD, List.getElem?_eq_getElem h1, List.getElem?_eq_getElem h2] at h4
  exact UInt8.toNat_inj.1 h4
theorem strOf_data (xs : List Int) : (strOf xs).data.toList = xs.map fun n => UInt8.ofNat n.toNat := by simp [strOf]
theorem strOf_size (xs : List Int) : (strOf xs).size = xs.length := by
  show (strOf xs).data.size = _
  rw [← Array.length_toList, strOf_data, List.length_map]
theorem bA_str (xs : List Int) (j : Nat) (h : j < xs.length) (h0 : ∀ x ∈ xs, 0 ≤ x ∧ x < 256) : ((bA (strOf xs) j : Nat) : Int) = xs.getD j 0 := by
  unfold bA
  rw [strOf_data, List.getD_eq_getElem?_getD, List.getElem?_map, List.getD_eq_getElem?_getD, List.getElem?_eq_getElem h]
  have := h0 _ (List.getElem_mem h)
  show ((UInt8.ofNat xs[j].toNat).toNat : Int) = xs[j]
  rw [UInt8.toNat_ofNat']
  omega
theorem xor8 (a b : Nat) (ha : a < 256) (hb : b < 256) : IntKind.wrap .u8 ↑(BitVec.toNat (BitVec.ofInt (IntKind.bits .u8) (a : Int) ^^^ BitVec.ofInt (IntKind.bits .u8) (b : Int))) = ((a ^^^ b : Nat) : Int) := by
  have hc : a ^^^ b < 2 ^ 8 := Nat.xor_lt_two_pow ha hb
  simp only [BitVec.ofInt_natCast, BitVec.toNat_xor, BitVec.toNat_ofNat]
  rw [Nat.mod_eq_of_lt (show a < 2 ^ IntKind.u8.bits from ha), Nat.mod_eq_of_lt (show b < 2 ^ IntKind.u8.bits from hb)]
  exact u8wrap (by omega) (by omega)
theorem xorB_self_comm {a b : ByteArray} (h : a.size = b.size) : xorB a b = xorB b a := by
  refine ba_ext (by rw [xorB_size a b (by omega), xorB_size b a (by omega), h]) fun j hj => ?_
  rw [xorB_size a b (by omega)] at hj
  rw [bA_xorB a b j hj (by omega), bA_xorB b a j (by omega) (by omega), Nat.xor_comm]
theorem xorB_assoc {a b c : ByteArray} (h : a.size = b.size) (h2 : b.size = c.size) : xorB (xorB a b) c = xorB a (xorB b c) := by
  have s1 := xorB_size a b (by omega)
  have s2 := xorB_size b c (by omega)
  refine ba_ext (by rw [xorB_size (xorB a b) c (by omega), s1, xorB_size a (xorB b c) (by omega)]) fun j hj => ?_
  rw [xorB_size (xorB a b) c (by omega), s1] at hj
  rw [bA_xorB (xorB a b) c j (by omega) (by omega), bA_xorB a b j hj (by omega), bA_xorB a (xorB b c) j hj (by omega), bA_xorB b c j (by omega) (by omega), Nat.xor_assoc]
theorem xorB_back {a b : ByteArray} (h : a.size = b.size) : xorB (xorB a b) b = a := by
  have s1 := xorB_size a b (by omega)
  refine ba_ext (by rw [xorB_size (xorB a b) b (by omega), s1]) fun j hj => ?_
  rw [xorB_size (xorB a b) b (by omega), s1] at hj
  rw [bA_xorB (xorB a b) b j (by omega) (by omega), bA_xorB a b j hj (by omega), Nat.xor_assoc, Nat.xor_self, Nat.xor_zero]
/-- A list of both, byte on byte. -/
def xorN (a b : ByteArray) (n : Nat) : List Int := (List.range n).map fun j => (((bA a j ^^^ bA b j : Nat)) : Int)
theorem xorN_str (a b : ByteArray) (hs : a.size ≤ b.size) : strOf (xorN a b a.size) = xorB a b := by
  refine ba_ext ?_ fun j hj => ?_
  · rw [strOf_size, xorN, List.length_map, List.length_range, xorB_size _ _ hs]
  · rw [strOf_size, xorN, List.length_map, List.length_range] at hj
    have h1 := bA_str (xorN a b a.size) j (by simpa [xorN] using hj) (by
      intro x hx
      obtain ⟨j', _, rfl⟩ := List.mem_map.1 hx
      have := Nat.xor_lt_two_pow (n := 8) (bA_lt a j') (bA_lt b j')
      omega)
    rw [bA_xorB _ _ _ hj hs]
    have h2 : (xorN a b a.size).getD j 0 = ((bA a j ^^^ bA b j : Nat) : Int) := by
      rw [xorN, List.getD_eq_getElem?_getD, List.getElem?_map, List.getElem?_range hj]
      rfl
    rw [h2] at h1
    exact Int.ofNat_inj.1 h1
theorem xorN_succ (a b : ByteArray) (n : Nat) : xorN a b (n + 1) = xorN a b n ++ [((bA a n ^^^ bA b n : Nat) : Int)] := by
  rw [xorN, List.range_succ, List.map_append]; rfl
/-- n bytes that are 0. -/
def zerosB (n : Nat) : ByteArray := strOf (List.replicate n 0)
theorem zerosB_size (n : Nat) : (zerosB n).size = n := by
  unfold zerosB
  rw [strOf_size, List.length_replicate]
theorem bA_zeros (n j : Nat) : bA (zerosB n) j = 0 := by
  unfold bA zerosB
  rw [strOf_data, List.map_replicate, List.getD_eq_getElem?_getD, List.getElem?_replicate]
  split <;> rfl
theorem zerosB_add (m n : Nat) : zerosB m ++ zerosB n = zerosB (m + n) := by
  apply ByteArray.ext
  apply Array.toList_inj.1
  rw [ByteArray.data_append, Array.toList_append]
  unfold zerosB
  rw [strOf_data, strOf_data, strOf_data, ← List.map_append, List.replicate_append_replicate]
end Vx.N
