/- Plain facts about lists and numbers that the claim's proof uses. Conditions: those that each theorem states. -/
import Derived.Test.YtaeeickboakmgaaWAll
import Derived.Test.YtaeeickboakmgaaQM
set_option linter.unusedVariables false
set_option linter.unusedSimpArgs false
namespace Go.Proofs.Ytaeeickboakmgaa.X
open Go.RowKit Go.Proofs.YtaeeickboakmgaaW.PrintWords Go.Proofs.YtaeeickboakmgaaW.PrintLast Go.Proofs.YtaeeickboakmgaaW.PrintMore

/-! Rows as ascending lists, and as bits. -/
theorem asc_ext : ∀ {a b : List Int}, a.Pairwise (· < ·) → b.Pairwise (· < ·) → (∀ z, z ∈ a ↔ z ∈ b) → a = b
  | [], [], _, _, _ => rfl
  | [], y :: b, _, _, h => by have := (h y).2 List.mem_cons_self; cases this
  | x :: a, [], _, _, h => by have := (h x).1 List.mem_cons_self; cases this
  | x :: a, y :: b, ha, hb, h => by
    rw [List.pairwise_cons] at ha hb
    have e : x = y := by
      have h1 := (h x).1 List.mem_cons_self
      have h2 := (h y).2 List.mem_cons_self
      rcases List.mem_cons.1 h1 with h1 | h1
      · exact h1
      · rcases List.mem_cons.1 h2 with h2 | h2
        · exact h2.symm
        · have := ha.1 y h2
          have := hb.1 x h1
          omega
    subst e
    congr 1
    refine asc_ext ha.2 hb.2 fun z => ?_
    constructor
    · intro hz
      have h1 := (h z).1 (List.mem_cons_of_mem _ hz)
      rcases List.mem_cons.1 h1 with h1 | h1
      · have := ha.1 z hz
        omega
      · exact h1
    · intro hz
      have h1 := (h z).2 (List.mem_cons_of_mem _ hz)
      rcases List.mem_cons.1 h1 with h1 | h1
      · have := hb.1 z hz
        omega
      · exact h1
/-- What is in just one of two ascending lists. -/
def xorL : List Int → List Int → List Int
  | [], b => b
  | x :: a, [] => x :: a
  | x :: a, y :: b => if x < y then x :: xorL a (y :: b) else if y < x then y :: xorL (x :: a) b else xorL a b
termination_by a b => a.length + b.length
theorem xorL_nil_left (b : List Int) : xorL [] b = b := by unfold xorL; rfl
theorem xorL_nil_right (a : List Int) : xorL a [] = a := by cases a <;> simp [xorL]
theorem xorL_cons (x y : Int) (a b : List Int) : xorL (x :: a) (y :: b) = if x < y then x :: xorL a (y :: b) else if y < x then y :: xorL (x :: a) b else xorL a b := by rw [xorL]
theorem xorL_mem (a b : List Int) (ha : a.Pairwise (· < ·)) (hb : b.Pairwise (· < ·)) : (∀ z, z ∈ xorL a b ↔ ¬ (z ∈ a ↔ z ∈ b)) ∧ (xorL a b).Pairwise (· < ·) := by
  induction hn : a.length + b.length using Nat.strongRecOn generalizing a b with
  | _ n ih =>
  match a, b with
  | [], b => rw [xorL_nil_left]; exact ⟨fun z => by simp, hb⟩
  | x :: a, [] => rw [xorL_nil_right]; exact ⟨fun z => by by_cases h : z ∈ x :: a <;> simp only [h, List.not_mem_nil] <;> simp, ha⟩
  | x :: a, y :: b =>
    have ha' := List.pairwise_cons.1 ha
    have hb' := List.pairwise_cons.1 hb
    rw [xorL_cons]
    simp only [List.length_cons] at hn
    by_cases h1 : x < y
    · rw [if_pos h1]
      obtain ⟨im, ip⟩ := ih _ (by simp only [List.length_cons]; omega) a (y :: b) ha'.2 hb rfl
      have hxb : ∀ z ∈ y :: b, x < z := fun z hz => by
        rcases List.mem_cons.1 hz with rfl | hz
        · exact h1
        · have := hb'.1 z hz; omega
      refine ⟨fun z => ?_, List.pairwise_cons.2 ⟨fun z hz => ?_, ip⟩⟩
      · rw [List.mem_cons, im, List.mem_cons (a := z) (b := x)]
        by_cases hz : z = x
        · subst hz
          have : z ∉ y :: b := fun h => by have := hxb z h; omega
          simp [this]
        · simp [hz]
      · have h2 := (im z).1 hz
        by_cases hza : z ∈ a
        · exact ha'.1 z hza
        · by_cases hzb : z ∈ y :: b
          · exact hxb z hzb
          · exact absurd (by simp only [hza, hzb]) h2
    · rw [if_neg h1]
      by_cases h2 : y < x
      · rw [if_pos h2]
        obtain ⟨im, ip⟩ := ih _ (by simp only [List.length_cons]; omega) (x :: a) b ha hb'.2 rfl
        have hya : ∀ z ∈ x :: a, y < z := fun z hz => by
          rcases List.mem_cons.1 hz with rfl | hz
          · exact h2
          · have := ha'.1 z hz; omega
        refine ⟨fun z => ?_, List.pairwise_cons.2 ⟨fun z hz => ?_, ip⟩⟩
        · rw [List.mem_cons, im, List.mem_cons (a := z) (b := y)]
          by_cases hz : z = y
          · subst hz
            have : z ∉ x :: a := fun h => by have := hya z h; omega
            simp [this]
          · simp [hz]
        · have h3 := (im z).1 hz
          by_cases hza : z ∈ x :: a
          · exact hya z hza
          · by_cases hzb : z ∈ b
            · exact hb'.1 z hzb
            · exact absurd (by simp only [hza, hzb]) h3
      · rw [if_neg h2]
        have e : x = y := by omega
        subst e
        obtain ⟨im, ip⟩ := ih _ (by omega) a b ha'.2 hb'.2 rfl
        refine ⟨fun z => ?_, ip⟩
        rw [im, List.mem_cons, List.mem_cons]
        by_cases hz : z = x
        · subst hz
          have h4 : z ∉ a := fun h => by have := ha'.1 z h; omega
          have h5 : z ∉ b := fun h => by have := hb'.1 z h; omega
          simp [h4, h5]
        · simp [hz]
/-- A row's bits. -/
def maskN (l : List Int) : Nat := l.foldl (fun m n => m ||| 2 ^ n.toNat) 0
def maskFrom (m : Nat) (l : List Int) : Nat := l.foldl (fun m n => m ||| 2 ^ n.toNat) m
theorem maskFrom_bit (l : List Int) (h : ∀ x ∈ l, 0 ≤ x) : ∀ (m j : Nat), (maskFrom m l).testBit j = (m.testBit j || decide ((j : Int) ∈ l)) := by
  induction l with
  | nil => intro m j; simp [maskFrom]
  | cons x l ih =>
    intro m j
    have := ih (fun y hy => h y (List.mem_cons_of_mem _ hy)) (m ||| 2 ^ x.toNat) j
    show (maskFrom (m ||| 2 ^ x.toNat) l).testBit j = _
    rw [this, Nat.testBit_or, Nat.testBit_two_pow]
    have hx := h x List.mem_cons_self
    have e : decide (x.toNat = j) = decide ((j : Int) = x) := by
      apply decide_eq_decide.2
      omega
    rw [e]
    simp [Bool.or_assoc, List.mem_cons]
theorem maskN_bit (l : List Int) (h : ∀ x ∈ l, 0 ≤ x) (j : Nat) : (maskN l).testBit j = decide ((j : Int) ∈ l) := by
  have := maskFrom_bit l h 0 j
  simpa [maskFrom, maskN] using this
theorem maskFrom_lt (l : List Int) (c : Nat) (h : ∀ x ∈ l, 0 ≤ x ∧ x < c) : ∀ m, m < 2 ^ c → maskFrom m l < 2 ^ c := by
  induction l with
  | nil => intro m hm; simpa [maskFrom] using hm
  | cons x l ih =>
    intro m hm
    have hx := h x List.mem_cons_self
    exact ih (fun y hy => h y (List.mem_cons_of_mem _ hy)) _ (Nat.or_lt_two_pow hm (Nat.pow_lt_pow_right (by decide) (by omega)))
theorem maskN_lt (l : List Int) (c : Nat) (h : ∀ x ∈ l, 0 ≤ x ∧ x < c) : maskN l < 2 ^ c := maskFrom_lt l c h 0 (Nat.two_pow_pos c)
/-- The row of bits. -/
def rowN (m : Nat) : List Int := ((List.range 24).filter fun j => m.testBit j).map fun j : Nat => (j : Int)
theorem rowN_mem (m : Nat) (z : Int) : z ∈ rowN m ↔ 0 ≤ z ∧ z < 24 ∧ m.testBit z.toNat = true := by
  unfold rowN
  simp only [List.mem_map, List.mem_filter, List.mem_range]
  constructor
  · rintro ⟨j, ⟨h1, h2⟩, rfl⟩
    exact ⟨by omega, by omega, by simpa using h2⟩
  · rintro ⟨h0, h1, h2⟩
    exact ⟨z.toNat, ⟨by omega, h2⟩, by omega⟩
theorem rowN_asc (m : Nat) : (rowN m).Pairwise (· < ·) := by
  unfold rowN
  rw [List.pairwise_map]
  refine List.Pairwise.imp (R := (· < ·)) (fun {a b} h => by omega) ?_
  exact List.Pairwise.filter _ List.pairwise_lt_range
theorem rowN_maskN (l : List Int) (ha : l.Pairwise (· < ·)) (h : ∀ x ∈ l, 0 ≤ x ∧ x < 24) : rowN (maskN l) = l := by
  refine asc_ext (rowN_asc _) ha fun z => ?_
  rw [rowN_mem, maskN_bit l (fun x hx => (h x hx).1)]
  constructor
  · rintro ⟨h0, _, h2⟩
    rw [Int.toNat_of_nonneg h0] at h2
    simpa using h2
  · intro hz
    have := h z hz
    refine ⟨this.1, this.2, ?_⟩
    rw [Int.toNat_of_nonneg this.1]
    simpa using hz
theorem maskN_rowN (m : Nat) (h : m < 2 ^ 24) : maskN (rowN m) = m := by
  refine Nat.eq_of_testBit_eq fun j => ?_
  rw [maskN_bit _ (fun x hx => ((rowN_mem m x).1 hx).1)]
  rcases Nat.lt_or_ge j 24 with hj | hj
  · cases hb : m.testBit j
    · rw [decide_eq_false_iff_not, rowN_mem]
      simp [hb]
    · rw [decide_eq_true_iff, rowN_mem]
      exact ⟨by omega, by omega, by simpa using hb⟩
  · rw [Nat.testBit_lt_two_pow (Nat.lt_of_lt_of_le h (Nat.pow_le_pow_right (by decide) hj)), decide_eq_false_iff_not, rowN_mem]
    omega
theorem xorL_rowN (a b : List Int) (ha : a.Pairwise (· < ·)) (hb : b.Pairwise (· < ·)) (ha' : ∀ x ∈ a, 0 ≤ x ∧ x < 24) (hb' : ∀ x ∈ b, 0 ≤ x ∧ x < 24) : rowN (maskN a ^^^ maskN b) = xorL a b := by
  obtain ⟨hm, hp⟩ := xorL_mem a b ha hb
  refine asc_ext (rowN_asc _) hp fun z => ?_
  rw [rowN_mem, hm, Nat.testBit_xor, maskN_bit a (fun x hx => (ha' x hx).1), maskN_bit b (fun x hx => (hb' x hx).1)]
  constructor
  · rintro ⟨h0, _, h2⟩
    rw [Int.toNat_of_nonneg h0] at h2
    by_cases h3 : z ∈ a <;> by_cases h4 : z ∈ b <;> simp_all
  · intro h
    have h0 : 0 ≤ z ∧ z < 24 := by
      by_cases h3 : z ∈ a
      · exact ha' z h3
      · by_cases h4 : z ∈ b
        · exact hb' z h4
        · simp [h3, h4] at h
    refine ⟨h0.1, h0.2, ?_⟩
    rw [Int.toNat_of_nonneg h0.1]
    by_cases h3 : z ∈ a <;> by_cases h4 : z ∈ b <;> simp_all
theorem xorL_in (a b : List Int) (ha : a.Pairwise (· < ·)) (hb : b.Pairwise (· < ·)) (c : Int) (ha' : ∀ x ∈ a, 0 ≤ x ∧ x < c) (hb' : ∀ x ∈ b, 0 ≤ x ∧ x < c) : ∀ x ∈ xorL a b, 0 ≤ x ∧ x < c := by
  intro x hx
  have := ((xorL_mem a b ha hb).1 x).1 hx
  by_cases h3 : x ∈ a
  · exact ha' x h3
  · by_cases h4 : x ∈ b
    · exact hb' x h4
    · simp [h3, h4] at this
theorem asc_length (a : List Int) (ha : a.Pairwise (· < ·)) (c : Nat) (h : ∀ x ∈ a, 0 ≤ x ∧ x < c) : a.length ≤ c := by
  have key : ∀ (l : List Int) (lo : Int), l.Pairwise (· < ·) → (∀ x ∈ l, lo ≤ x ∧ x < c) → (l.length : Int) ≤ max 0 (c - lo) := by
    intro l
    induction l with
    | nil => intro lo _ _; simp; omega
    | cons x l ih =>
      intro lo hp hx
      have hp' := List.pairwise_cons.1 hp
      have := ih (x + 1) hp'.2 fun y hy => ⟨by have := hp'.1 y hy; omega, (hx y (List.mem_cons_of_mem _ hy)).2⟩
      have h0 := hx x List.mem_cons_self
      simp only [List.length_cons]
      omega
  have := key a 0 ha h
  omega

end Go.Proofs.Ytaeeickboakmgaa.X
