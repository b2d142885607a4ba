/- What functions come to, and that they do so; conditions: those that each theorem states. -/
import Derived.Test.YtbgheffgkncpgaaDoorDqw5
import Derived.Lib.Split
import Derived.Lib.AtoiAll
import Derived.Lib.ItoaNum
import Derived.Lib.CutLaws
set_option linter.unusedVariables false
set_option linter.unusedSimpArgs false
namespace Go.Proofs.YtbgheffgkncpgaaDoor.V
open Go Vx Vx.N
/-! ### Texts cut -/
theorem cutL_same (b : UInt8) (r : List UInt8) : cutL b (b :: r) = [] :: cutL b r := by rw [cutL, if_pos rfl]
theorem cutL_other {b c : UInt8} (h : c ≠ b) (r : List UInt8) : cutL b (c :: r) = (c :: (cutL b r).headD []) :: (cutL b r).tail := by rw [cutL, if_neg h]
theorem cutL_some (b : UInt8) : ∀ l : List UInt8, ∃ x t, cutL b l = x :: t
  | [] => ⟨_, _, rfl⟩
  | c :: r => by
    by_cases h : c = b
    · subst h; exact ⟨_, _, cutL_same c r⟩
    · exact ⟨_, _, cutL_other h r⟩
/-- Where the first byte b stands. -/
theorem idx_cut (b : UInt8) : ∀ l : List UInt8, (Lib.index l [b] = -1 ∧ cutL b l = [l] ∧ l.contains b = false ∧ behindL b l = []) ∨ ∃ i : Nat, Lib.index l [b] = (i : Int) ∧ i < l.length ∧ cutL b l = l.take i :: cutL b (l.drop (i + 1)) ∧ l.contains b = true ∧ behindL b l = l.drop (i + 1)
  | [] => .inl ⟨rfl, rfl, rfl, rfl⟩
  | c :: r => by
    by_cases h : c = b
    · subst h
      exact .inr ⟨0, by simp [Lib.index, List.isPrefixOf], by simp, by rw [cutL_same]; rfl, by simp, by rw [behindL, if_pos rfl]; rfl⟩
    · have hp : List.isPrefixOf [b] (c :: r) = false := by simp [List.isPrefixOf]; exact fun e => h e.symm
      rcases idx_cut b r with ⟨h1, h2, h3, h4⟩ | ⟨i, h1, h2, h3, h4, h5⟩
      · refine .inl ⟨by rw [Lib.index, hp, h1]; rfl, by rw [cutL_other h, h2]; rfl, ?_, by rw [behindL, if_neg h, h4]⟩
        rw [List.contains_cons, h3, Bool.or_false]
        exact beq_eq_false_iff_ne.2 fun e => h e.symm
      · refine .inr ⟨i + 1, ?_, by simp; omega, ?_, by rw [List.contains_cons, h4, Bool.or_true], by rw [behindL, if_neg h, h5]; rfl⟩
        · rw [Lib.index, hp, h1, if_neg (by simp), if_neg (by simp)]
          rfl
        · rw [cutL_other h, h3]; rfl
theorem splitK_cut (b : UInt8) : ∀ (f : Nat) (l : List UInt8), l.length < f → Lib.splitK [b] 0 (Lib.countFrom [b] f l) l = cutL b l ∧ (cutL b l).length = Lib.countFrom [b] f l + 1
  | 0, l, h => by omega
  | f + 1, l, h => by
    rcases idx_cut b l with ⟨h1, h2, _, _⟩ | ⟨i, h1, h2, h3, _, _⟩
    · rw [Lib.countFrom, h1, if_pos (by rfl), h2]; exact ⟨rfl, rfl⟩
    · have ih := splitK_cut b f (l.drop (i + 1)) (by rw [List.length_drop]; omega)
      have hne : ¬ ((i : Int) == -1) = true := fun e => by have := beq_iff_eq.1 e; omega
      have hi : (i : Int).toNat + [b].length = i + 1 := by rw [Int.toNat_natCast]; rfl
      rw [Lib.countFrom, h1, if_neg hne, hi, Nat.add_comm 1 (Lib.countFrom _ _ _), Lib.splitK, h1, if_neg hne, hi, ih.1, h3, List.length_cons, ih.2]
      exact ⟨by rw [Int.toNat_natCast, Nat.add_zero], rfl⟩
theorem ba_data (s : ByteArray) : ba s.data.toList = s := rfl
theorem sep_one {sep : ByteArray} (h : sep.size = 1) : sep.data.toList = [UInt8.ofNat (bA sep 0)] := by
  obtain ⟨⟨l⟩⟩ := sep
  have h : l.length = 1 := h
  match l, h with
  | [c], _ => simp [bA]
theorem split_cut {s sep : ByteArray} (h : sep.size = 1) : Lib.splitB sep 0 (Lib.countB s sep) s = cutB (UInt8.ofNat (bA sep 0)) s ∧ (cutB (UInt8.ofNat (bA sep 0)) s).length = Lib.countB s sep + 1 := by
  have hc : Lib.countB s sep = Lib.countFrom [UInt8.ofNat (bA sep 0)] (s.data.toList.length + 1) s.data.toList := by
    unfold Lib.countB Lib.count
    rw [sep_one h]
  obtain ⟨h1, h2⟩ := splitK_cut (UInt8.ofNat (bA sep 0)) (s.data.toList.length + 1) s.data.toList (Nat.lt_succ_self _)
  have h3 := Lib.splitB_data sep 0 (Lib.countB s sep) s
  rw [hc, sep_one h, h1, ← hc] at h3
  constructor
  · unfold cutB
    rw [← h3, List.map_map]
    exact (List.map_id _).symm
  · unfold cutB
    rw [List.length_map, h2, hc]
theorem lib_cut {s sep : ByteArray} (h : sep.size = 1) : Lib.cut s.data.toList sep.data.toList = (aheadL (UInt8.ofNat (bA sep 0)) s.data.toList, behindL (UInt8.ofNat (bA sep 0)) s.data.toList, s.data.toList.contains (UInt8.ofNat (bA sep 0))) := by
  rw [sep_one h]
  generalize UInt8.ofNat (bA sep 0) = b
  generalize s.data.toList = l
  unfold Lib.cut aheadL
  rcases idx_cut b l with ⟨h1, h2, h3, h4⟩ | ⟨i, h1, h2, h3, h4, h5⟩
  · rw [h1, if_neg (by decide), h2, h3, h4]; rfl
  · rw [h1, if_pos (by omega), h3, h4, h5, Int.toNat_natCast]; rfl
/-- Pieces are no longer than the text. -/
theorem cutL_le (b : UInt8) : ∀ (l : List UInt8), (cutL b l).length ≤ l.length + 1 ∧ ∀ x ∈ cutL b l, x.length ≤ l.length
  | [] => ⟨by simp [cutL], fun x hx => by simp [cutL] at hx; simp [hx]⟩
  | c :: r => by
    obtain ⟨h1, h2⟩ := cutL_le b r
    by_cases h : c = b
    · subst h
      rw [cutL_same]
      refine ⟨by simp; omega, fun x hx => ?_⟩
      rcases List.mem_cons.1 hx with rfl | hx
      · simp
      · have := h2 x hx
        simp; omega
    · obtain ⟨y, t, e⟩ := cutL_some b r
      rw [cutL_other h, e]
      rw [e] at h1 h2
      refine ⟨by simp at h1 ⊢; omega, fun x hx => ?_⟩
      rcases List.mem_cons.1 hx with rfl | hx
      · have := h2 y (by simp)
        simp; exact this
      · have := h2 x (List.mem_cons_of_mem _ hx)
        simp; omega
theorem ba_size (l : List UInt8) : (ba l).size = l.length := by show Array.size _ = _; simp
theorem cutB_len (b : UInt8) (s : ByteArray) : (cutB b s).length ≤ s.size + 1 := by
  unfold cutB
  rw [List.length_map]
  have := (cutL_le b s.data.toList).1
  rwa [show s.data.toList.length = s.size from by rw [Array.length_toList]; rfl] at this
theorem cutB_size (b : UInt8) (s : ByteArray) : ∀ x ∈ cutB b s, x.size ≤ s.size := fun x hx => by
  unfold cutB at hx
  obtain ⟨y, hy, rfl⟩ := List.mem_map.1 hx
  have := (cutL_le b s.data.toList).2 y hy
  rwa [show s.data.toList.length = s.size from by rw [Array.length_toList]; rfl, ← ba_size] at this
/-! ### Figures -/
theorem ofNat_toNat (c : UInt8) : UInt8.ofNat c.toNat = c := by simp
theorem figs_dig {c : UInt8} (h : 48 ≤ c.toNat ∧ c.toNat ≤ 57) (acc : Nat) (r : List UInt8) : figs (acc : Int) (c :: r) = figs ((acc * 10 + (c.toNat - 48) : Nat) : Int) r := by
  rw [figs, if_pos h]
  congr 1
  omega
theorem figs_bad {c : UInt8} (h : ¬ (48 ≤ c.toNat ∧ c.toNat ≤ 57)) (n : Int) (r : List UInt8) : figs n (c :: r) = -1 := by rw [figs, if_neg h]
theorem parse_figs : ∀ (l : List UInt8) (acc k : Nat), l.length + k ≤ 6 → acc < 10 ^ k → 0 ≤ figs (acc : Int) l → Lib.parseUint10 acc l = .ok (figs (acc : Int) l).toNat
  | [], acc, k, _, _, _ => by
    rw [Lib.parseUint10, figs, Int.toNat_natCast]
  | c :: r, acc, k, hl, ha, hf => by
    have hk : 10 ^ k ≤ 10 ^ 6 := Nat.pow_le_pow_right (by decide) (by simp at hl; omega)
    have h6 : (10 : Nat) ^ 6 = 1000000 := rfl
    by_cases h : 48 ≤ c.toNat ∧ c.toNat ≤ 57
    · rw [figs_dig h] at hf
      rw [Lib.parseUint10, if_pos h, if_neg (by omega), if_neg (by omega), figs_dig h]
      exact parse_figs r _ (k + 1) (by simp at hl; omega) (by rw [Nat.pow_succ]; omega) hf
    · rw [figs_bad h] at hf
      omega
theorem dec_figs : ∀ (l : List UInt8) (acc : Nat), 0 < acc → 0 ≤ figs (acc : Int) l → Lib.decDigits (figs (acc : Int) l).toNat = Lib.decDigits acc ++ l
  | [], acc, _, _ => by rw [figs, Int.toNat_natCast, List.append_nil]
  | c :: r, acc, h0, hf => by
    by_cases h : 48 ≤ c.toNat ∧ c.toNat ≤ 57
    · rw [figs_dig h] at hf ⊢
      rw [dec_figs r _ (by omega) hf, Lib.decDigits, dif_neg (by omega), show (acc * 10 + (c.toNat - 48)) / 10 = acc by omega, show 48 + (acc * 10 + (c.toNat - 48)) % 10 = c.toNat by omega, ofNat_toNat, List.append_assoc]
      rfl
    · rw [figs_bad h] at hf; omega
/-- A number reads back. -/
theorem num_dec {l : List UInt8} (h : 0 ≤ numL l) : Lib.decDigits (numL l).toNat = l ∧ (1 ≤ l.length ∧ l.length ≤ 6) ∧ ∃ c r, l = c :: r ∧ 48 ≤ c.toNat ∧ c.toNat ≤ 57 := by
  unfold numL at h ⊢
  split at h
  · omega
  rename_i hb
  rw [if_neg hb]
  have hl : 1 ≤ l.length ∧ l.length ≤ 6 := ⟨by omega, by omega⟩
  cases l with
  | nil => simp at hl
  | cons c r =>
    have hc : 48 ≤ c.toNat ∧ c.toNat ≤ 57 := by
      by_cases hc : 48 ≤ c.toNat ∧ c.toNat ≤ 57
      · exact hc
      · rw [figs_bad hc] at h; omega
    refine ⟨?_, hl, c, r, rfl, hc⟩
    have e := figs_dig hc 0 r
    rw [Nat.zero_mul, Nat.zero_add] at e
    rw [show ((0 : Nat) : Int) = 0 from rfl] at e
    rw [e] at h ⊢
    cases r with
    | nil => rw [figs, Int.toNat_natCast, Lib.decDigits_one (by omega), show 48 + (c.toNat - 48) = c.toNat by omega, ofNat_toNat]
    | cons d t =>
      have hne : c.toNat ≠ 48 := fun e48 => hb (.inr (.inr ⟨by simp, by
        have : c = 48 := UInt8.toNat_inj.1 e48
        rw [this]; rfl⟩))
      rw [dec_figs _ _ (by omega) h, Lib.decDigits_one (by omega), show 48 + (c.toNat - 48) = c.toNat by omega, ofNat_toNat]
      rfl
theorem num_lt {l : List UInt8} (h : 0 ≤ numL l) : numL l < 1000000 := by
  obtain ⟨h1, h2, _⟩ := num_dec h
  have h3 := Lib.lt_pow_nDigits (numL l).toNat
  rw [← Lib.decDigits_length, h1] at h3
  have h4 : 10 ^ l.length ≤ 10 ^ 6 := Nat.pow_le_pow_right (by decide) h2.2
  have h6 : (10 : Nat) ^ 6 = 1000000 := rfl
  omega
theorem num_atoi {l : List UInt8} (h : 0 ≤ numL l) : Lib.atoiAll l = .ok (numL l) := by
  obtain ⟨_, h2, c, r, rfl, h3, h4⟩ := num_dec h
  have hlt := num_lt h
  have hf : numL (c :: r) = figs 0 (c :: r) := by
    unfold numL at h ⊢
    split at h
    · omega
    rename_i hb
    rw [if_neg hb]
  have hp := parse_figs (c :: r) 0 0 (by omega) (by decide) (by rw [show ((0 : Nat) : Int) = 0 from rfl, ← hf]; exact h)
  rw [show ((0 : Nat) : Int) = 0 from rfl, ← hf] at hp
  unfold Lib.atoiAll Lib.parseMag
  dsimp only
  rw [if_neg (show ¬ (c.toNat = 43 ∨ c.toNat = 45) by omega), if_neg (by simp), hp]
  dsimp only
  rw [if_neg (by omega), if_neg (by omega), if_neg (by omega), Int.toNat_of_nonneg h]
theorem figs_snoc {c : UInt8} (hc : 48 ≤ c.toNat ∧ c.toNat ≤ 57) : ∀ (l : List UInt8) (n : Int), 0 ≤ n → 0 ≤ figs n l → figs n (l ++ [c]) = figs n l * 10 + ((c.toNat : Int) - 48)
  | [], n, _, _ => by simp only [List.nil_append, figs, if_pos hc]
  | d :: r, n, hn, h => by
    by_cases hd : 48 ≤ d.toNat ∧ d.toNat ≤ 57
    · rw [List.cons_append, figs, if_pos hd, figs, if_pos hd]
      rw [figs, if_pos hd] at h
      exact figs_snoc hc r _ (by omega) h
    · rw [figs_bad hd] at h; omega
theorem digit_nat {u : Nat} (h : u < 10) : (UInt8.ofNat (48 + u)).toNat = 48 + u := by
  rw [UInt8.toNat_ofNat']; omega
theorem figs_dec (u : Nat) : figs 0 (Lib.decDigits u) = (u : Int) := by
  induction u using Nat.strongRecOn with
  | _ u ih =>
    by_cases h : u < 10
    · rw [Lib.decDigits_one h, figs, if_pos (by rw [digit_nat h]; omega), figs, digit_nat h]; omega
    · have h1 := ih (u / 10) (by omega)
      rw [Lib.decDigits, dif_neg h, figs_snoc (by rw [digit_nat (by omega)]; omega) _ _ (Int.le_refl _) (by omega), h1, digit_nat (by omega)]
      omega
theorem dec_head (u : Nat) : 1 ≤ u → (Lib.decDigits u).head? ≠ some 48 := by
  induction u using Nat.strongRecOn with
  | _ u ih =>
    intro h0
    by_cases h : u < 10
    · rw [Lib.decDigits_one h]
      intro e
      have e : UInt8.ofNat (48 + u) = 48 := by simpa using e
      have := congrArg UInt8.toNat e
      rw [digit_nat h] at this
      have h48 : (48 : UInt8).toNat = 48 := rfl
      omega
    · rw [Lib.decDigits, dif_neg h]
      have h1 := ih (u / 10) (by omega) (by omega)
      have hp := Lib.nDigits_pos (u / 10)
      rw [← Lib.decDigits_length] at hp
      cases hd : Lib.decDigits (u / 10) with
      | nil => rw [hd] at hp; simp at hp
      | cons x t => rw [hd] at h1; exact h1
theorem num_of_dec {u : Nat} (h : (Lib.decDigits u).length ≤ 6) : numL (Lib.decDigits u) = (u : Int) := by
  have hp := Lib.nDigits_pos u
  rw [← Lib.decDigits_length] at hp
  unfold numL
  rw [if_neg, figs_dec]
  rintro (h1 | h1 | ⟨h1, h2⟩)
  · omega
  · omega
  · by_cases h3 : u < 10
    · rw [Lib.decDigits_one h3] at h1; simp at h1
    · exact dec_head u (by omega) h2
theorem atoi_le {l : List UInt8} {v : Int} (h : Lib.atoiAll l = .ok v) : v ≤ 9223372036854775807 := by
  unfold Lib.atoiAll at h
  split at h
  · cases h
  · dsimp only at h
    split at h
    · cases h
    · cases h
    · split at h
      · cases h
      · split at h
        · cases h
        · injection h with h
          split at h <;> omega
/-- Of what strconv.Atoi takes for a number below 0. -/
theorem num_neg {l : List UInt8} {v : Int} (h : numL l < 0) (h0 : 0 ≤ v) (hl : l.length ≤ 6) : Lib.itoa v ≠ l := by
  intro e
  unfold Lib.itoa at e
  rw [if_neg (by omega)] at e
  subst e
  rw [num_of_dec hl] at h
  omega
end Go.Proofs.YtbgheffgkncpgaaDoor.V
