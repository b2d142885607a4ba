/- What functions come to, and that they do so; conditions: those that each theorem states. -/
import Derived.Test.YthcahoeoofggjaaKeK2a
set_option linter.unusedVariables false
set_option linter.unusedSimpArgs false
namespace Go.Proofs.Ythcahoeoofggjaa.V
open Go Vx Vx.N
/-! ### Rows that are ok -/
def rowAt (l : List Int) (hi : Int) (i : Nat) : Prop := 0 ≤ l.getD i 0 ∧ l.getD i 0 ≤ hi ∧ (0 < i → l.getD (i - 1) 0 < l.getD i 0)
def rowFrom (l : List Int) (hi : Int) (i : Nat) : Prop := ∀ j, i ≤ j → j < l.length → rowAt l hi j
theorem rowFrom_end {l : List Int} {hi : Int} {i : Nat} (h : l.length ≤ i) : rowFrom l hi i := fun j h1 h2 => by omega
theorem rowFrom_step {l : List Int} {hi : Int} {i : Nat} (h : i < l.length) : rowFrom l hi i ↔ rowAt l hi i ∧ rowFrom l hi (i + 1) := by
  constructor
  · exact fun H => ⟨H i (Nat.le_refl _) h, fun j h1 h2 => H j (by omega) h2⟩
  · rintro ⟨h0, H⟩ j h1 h2
    rcases Nat.eq_or_lt_of_le h1 with rfl | h3
    · exact h0
    · exact H j h3 h2
theorem rowAll (l : List Int) (c : Int) : (rowFrom l (IntKind.wrap .i64 (c - 1)) 0 ∧ 0 ≤ c ∧ c ≤ 24) ↔ RowP l c := by
  unfold RowP
  constructor
  · rintro ⟨H, h0, h1⟩
    have e : IntKind.wrap .i64 (c - 1) = c - 1 := w64 (by omega) (by omega)
    rw [e] at H
    refine ⟨h0, h1, ?_, ?_⟩
    · rw [List.pairwise_iff_getElem]
      intro i j hi hj hij
      have key : ∀ d, i + d + 1 < l.length → l[i]! < l[i + d + 1]! := by
        intro d
        induction d with
        | zero =>
          intro hd
          have := (H (i + 1) (by omega) hd).2.2 (by omega)
          simpa [List.getD, hi, hd] using this
        | succ d ih =>
          intro hd
          have h2 := ih (by omega)
          have h3 := (H (i + d + 2) (by omega) (by omega)).2.2 (by omega)
          have h4 : i + d + 1 < l.length := by omega
          have h5 : i + d + 2 < l.length := by omega
          simp [List.getD, h4, h5] at h3
          rw [getElem!_pos l i hi, getElem!_pos l (i + d + 1) h4] at h2
          rw [getElem!_pos l i hi, getElem!_pos l (i + (d + 1) + 1) (by omega)]
          have : l[i + (d + 1) + 1] = l[i + d + 2] := rfl
          omega
      have := key (j - i - 1) (by omega)
      have e2 : i + (j - i - 1) + 1 = j := by omega
      rw [e2] at this
      rwa [getElem!_pos l _ hi, getElem!_pos l _ hj] at this
    · intro x hx
      obtain ⟨i, hi, rfl⟩ := List.getElem_of_mem hx
      have := H i (Nat.zero_le _) hi
      simp [rowAt, List.getD, hi] at this
      omega
  · rintro ⟨h0, h1, hp, hm⟩
    have e : IntKind.wrap .i64 (c - 1) = c - 1 := w64 (by omega) (by omega)
    rw [e]
    refine ⟨fun j _ hj => ?_, h0, h1⟩
    have hmj := hm l[j] (List.getElem_mem hj)
    refine ⟨by simp [List.getD, hj]; omega, by simp [List.getD, hj]; omega, fun hj0 => ?_⟩
    have hj1 : j - 1 < l.length := by omega
    have := (List.pairwise_iff_getElem.1 hp) (j - 1) j hj1 hj (by omega)
    simpa [List.getD, hj, hj1] using this
theorem inB_f {n lo hi : Int} : inB n lo hi = false ↔ ¬ (lo ≤ n ∧ n ≤ hi) := by simp [inB]
theorem toNat_succ {i : Int} (h : 0 ≤ i) : (i + 1).toNat = i.toNat + 1 := by omega
/-- One look at a row's number. -/
theorem row_look {l : List Int} {hi i : Int} (h0 : 0 ≤ i) (h1 : i < l.length) {P : Prop} : cdec (rowFrom l hi i.toNat ∧ P) = (if ¬ (0 ≤ l.getD i.toNat 0 ∧ l.getD i.toNat 0 ≤ hi) then false else if 0 < i ∧ l.getD (i - 1).toNat 0 ≥ l.getD i.toNat 0 then false else cdec (rowFrom l hi (i + 1).toNat ∧ P)) := by
  rw [toNat_succ h0]
  have hs := rowFrom_step (l := l) (hi := hi) (i := i.toNat) (by omega)
  have e : (i - 1).toNat = i.toNat - 1 := by omega
  rw [e]
  by_cases c1 : 0 ≤ l.getD i.toNat 0 ∧ l.getD i.toNat 0 ≤ hi
  · rw [if_neg (fun h => h c1)]
    by_cases c2 : 0 < i ∧ l.getD (i.toNat - 1) 0 ≥ l.getD i.toNat 0
    · rw [if_pos c2]
      refine cdec_f fun h => ?_
      have := (hs.1 h.1).1.2.2 (by omega)
      omega
    · rw [if_neg c2]
      refine cdec_congr ?_
      rw [hs]
      have : rowAt l hi i.toNat := ⟨c1.1, c1.2, fun h => by
        have h' : 0 < i := by omega
        have := fun h => c2 ⟨h', h⟩
        omega⟩
      simp [this]
  · rw [if_pos c1]
    exact cdec_f fun h => c1 ⟨(hs.1 h.1).1.1, (hs.1 h.1).1.2.1⟩
theorem K_spec_RowOk : Sound1 Try.prog EKs F_spec_RowOk.f S_spec_RowOk := snd ok_spec_RowOk [(F_spec_l1In.f, S_spec_l1In)] (tabF_cons K_spec_l1In (tabF_nil _ _)) fun args sp h hp => by
  unfold S_spec_RowOk at h
  split at h
  · rename_i l c
    cases h
    have hl : l.length < 1000000000 := of_decide_eq_true hp
    refine ⟨rfl, l.length + 1, (spec_RowOk_run _ _ _).trans ?_⟩
    refine (fix3 (T := fun k => spec_RowOk_T2 k) (fun i c' l' => c' = c ∧ l' = l ∧ 0 ≤ i ∧ i ≤ l.length) (fun i _ _ => l.length - i.toNat) (fun i _ _ => ([B (cdec (rowFrom l (IntKind.wrap .i64 (c - 1)) i.toNat ∧ 0 ≤ c ∧ c ≤ 24))], [])) ?_ _ _ _ _ ⟨rfl, rfl, by omega, by omega⟩ (by omega)).trans ?_
    · rintro i c' l' K ⟨rfl, rfl, h0, h1⟩ hK
      unfold spec_RowOk_T2
      simp only [Bool.cond_eq_ite, decide_eq_true_eq, Bool.not_eq_true', inB_f]
      by_cases hi : i < l'.length
      · rw [if_pos hi, if_pos h0, if_pos hi, row_look h0 hi, w64i h0 (by omega), w64 (x := i - 1) (by omega) (by omega)]
        have nx := hK (i + 1) c' l' ⟨rfl, rfl, by omega, by omega⟩ (by omega)
        by_cases c1 : 0 ≤ l'.getD i.toNat 0 ∧ l'.getD i.toNat 0 ≤ IntKind.wrap .i64 (c' - 1)
        · rw [if_neg (not_not_intro c1), if_neg (not_not_intro c1)]
          by_cases c2 : 0 < i
          · rw [if_pos c2, if_pos (by omega), if_pos (by omega), if_pos h0, if_pos hi]
            by_cases c3 : l'.getD (i - 1).toNat 0 ≥ l'.getD i.toNat 0
            · rw [if_pos c3, if_pos ⟨c2, c3⟩]
            · rw [if_neg c3, if_neg (fun h => c3 h.2), nx]
          · rw [if_neg c2, if_neg (fun h => c2 h.1), nx]
        · rw [if_pos c1, if_pos c1]
      · rw [if_neg hi]
        have : rowFrom l' (IntKind.wrap .i64 (c' - 1)) i.toNat := rowFrom_end (by omega)
        simp only [this, true_and]
        rw [cdec_dec]; rfl
    · rw [show Int.toNat 0 = 0 from rfl, cdec_congr (rowAll l c), cdec_dec]
  · cases h
theorem K_impl_RowOk : Sound1 Try.prog EKs F_impl_RowOk.f S_impl_RowOk := snd ok_impl_RowOk [(F_impl_within.f, S_impl_within)] (tabF_cons K_impl_within (tabF_nil _ _)) fun args sp h hp => by
  unfold S_impl_RowOk S_spec_RowOk at h
  split at h
  · rename_i l c
    cases h
    have hl : l.length < 1000000000 := of_decide_eq_true hp
    refine ⟨rfl, l.length + 1, (impl_RowOk_run _ _ _).trans ?_⟩
    refine (fix5 (T := fun k => impl_RowOk_T2 k) (fun i n a c' l' => n = l.length ∧ a = l ∧ c' = c ∧ l' = l ∧ 0 ≤ i ∧ i ≤ l.length) (fun i _ _ _ _ => l.length - i.toNat) (fun i _ _ _ _ => ([B (cdec (rowFrom l (IntKind.wrap .i64 (c - 1)) i.toNat ∧ 0 ≤ c ∧ c ≤ 24))], [])) ?_ _ _ _ _ _ _ ⟨rfl, rfl, rfl, rfl, by omega, by omega⟩ (by omega)).trans ?_
    · rintro i n a c' l' K ⟨rfl, rfl, rfl, rfl, h0, h1⟩ hK
      unfold impl_RowOk_T2
      simp only [Bool.cond_eq_ite, decide_eq_true_eq, Bool.not_eq_true', inB_f]
      by_cases hi : i < l'.length
      · rw [if_pos hi, if_pos h0, if_pos hi, row_look h0 hi, w64i h0 (by omega), w64 (x := i - 1) (by omega) (by omega)]
        have nx := hK (i + 1) l'.length l' c' l' ⟨rfl, rfl, rfl, rfl, by omega, by omega⟩ (by omega)
        by_cases c1 : 0 ≤ l'.getD i.toNat 0 ∧ l'.getD i.toNat 0 ≤ IntKind.wrap .i64 (c' - 1)
        · rw [if_neg (not_not_intro c1), if_neg (not_not_intro c1)]
          by_cases c2 : 0 < i
          · rw [if_pos c2, if_pos (by omega), if_pos (by omega)]
            by_cases c3 : l'.getD (i - 1).toNat 0 ≥ l'.getD i.toNat 0
            · rw [if_pos c3, if_pos ⟨c2, c3⟩]
            · rw [if_neg c3, if_neg (fun h => c3 h.2), nx]
          · rw [if_neg c2, if_neg (fun h => c2 h.1), nx]
        · rw [if_pos c1, if_pos c1]
      · rw [if_neg hi]
        have : rowFrom l' (IntKind.wrap .i64 (c' - 1)) i.toNat := rowFrom_end (by omega)
        simp only [this, true_and]
        rw [cdec_dec]; rfl
    · rw [show Int.toNat 0 = 0 from rfl, cdec_congr (rowAll l c), cdec_dec]
  · cases h
/-! ### Noughts and sums -/
theorem zeros_one {s : ByteArray} (h : s.data.toList = [0]) : s = zerosB 1 := by
  apply ByteArray.ext
  apply Array.toList_inj.1
  rw [h]
  unfold zerosB
  rw [strOf_data]; rfl
theorem many_step (q p k : Nat) (h : 0 < k) : q + k * p = (if k % 2 = 1 then q + p else q) + k / 2 * (p + p) := by
  have e : k = 2 * (k / 2) + k % 2 := by omega
  have e2 : k * p = k / 2 * (p + p) + k % 2 * p := by
    calc k * p = (2 * (k / 2) + k % 2) * p := by rw [← e]
      _ = k / 2 * (p + p) + k % 2 * p := by rw [Nat.add_mul, ← Nat.two_mul, ← Nat.mul_assoc, Nat.mul_comm (k / 2) 2]
  rcases Nat.mod_two_eq_zero_or_one k with h0 | h0
  · rw [if_neg (by omega), e2, h0]; omega
  · rw [if_pos h0, e2, h0]; omega
theorem K_spec_l1Many : Sound1 Try.prog EKs F_spec_l1Many.f S_spec_l1Many := snd ok_spec_l1Many [] (tabF_nil _ _) fun args sp h hp => by
  unfold S_spec_l1Many at h
  split at h
  · rename_i s n
    cases h
    obtain ⟨hs, h0, h1⟩ := of_decide_eq_true hp
    have hs := zeros_one hs
    subst hs
    refine ⟨rfl, n.toNat + 1, (spec_l1Many_run _ _ _).trans ?_⟩
    refine (fix3 (T := fun k => spec_l1Many_T2 k) (fun out k s => 0 ≤ k ∧ out = zerosB out.size ∧ s = zerosB s.size ∧ out.size + k.toNat * s.size = n.toNat ∧ 1 ≤ s.size) (fun _ k _ => k.toNat) (fun _ _ _ => ([T (zerosB n.toNat)], [])) ?_ _ _ _ _ ⟨h0, rfl, by rw [zerosB_size], by rw [zerosB_size]; show 0 + _ = _; omega, by rw [zerosB_size]; omega⟩ (by omega))
    rintro out k s K ⟨q0, q1, q2, q3, q4⟩ hK
    unfold spec_l1Many_T2
    simp only [Bool.cond_eq_ite, decide_eq_true_eq, beq_iff_eq]
    by_cases hk : k > 0
    · have hst := many_step out.size s.size k.toNat (by omega)
      have hm : Int.tmod k 2 = ((k.toNat % 2 : Nat) : Int) := by rw [Int.tmod_eq_emod_of_nonneg q0]; omega
      have hge : s.size ≤ k.toNat * s.size := Nat.le_mul_of_pos_left _ (by omega)
      have hb : k.toNat ≤ k.toNat * s.size := Nat.le_mul_of_pos_right _ q4
      have hd : IntKind.wrap .i64 (Int.tdiv k 2) = ((k.toNat / 2 : Nat) : Int) := by
        rw [Int.tdiv_eq_ediv_of_nonneg q0, w64 (by omega) (by omega)]; omega
      have hss : s ++ s = zerosB (s.size + s.size) := by rw [← zerosB_add, ← q2]
      have hos : out ++ s = zerosB (out.size + s.size) := by rw [← zerosB_add, ← q2, ← q1]
      have z1 : (s ++ s).size = s.size + s.size := by rw [hss, zerosB_size]
      have z2 : (out ++ s).size = out.size + s.size := by rw [hos, zerosB_size]
      rw [if_pos hk, hm, hd]
      by_cases c : k.toNat % 2 = 1
      · rw [if_pos (by omega), if_pos (by omega), if_pos (by omega)]
        refine hK _ _ _ ⟨by omega, by rw [z2]; exact hos, by rw [z1]; exact hss, ?_, by omega⟩ (by omega)
        rw [if_pos c] at hst
        rw [z1, z2, Int.toNat_natCast]; omega
      · rw [if_neg (by omega), if_pos (by omega)]
        refine hK _ _ _ ⟨by omega, q1, by rw [z1]; exact hss, ?_, by omega⟩ (by omega)
        rw [if_neg c] at hst
        rw [z1, Int.toNat_natCast]; omega
    · rw [if_neg hk]
      have : k.toNat = 0 := by omega
      rw [this, Nat.zero_mul, Nat.add_zero] at q3
      rw [q1, q3]
  · cases h
theorem one_zero : (strOf [0]).data.toList = [0] := by rw [strOf_data]; rfl
theorem K_spec_l3Zero : Sound1 Try.prog EKs F_spec_l3Zero.f S_spec_l3Zero := snd ok_spec_l3Zero [(F_spec_l1Many.f, S_spec_l1Many)] (tabF_cons K_spec_l1Many (tabF_nil _ _)) fun args sp h hp => by
  unfold S_spec_l3Zero at h
  split at h
  · cases h
    have h0 := of_decide_eq_true hp
    refine ⟨rfl, 0, (spec_l3Zero_run _ _).trans ?_⟩
    unfold spec_l3Zero_T
    rw [decide_eq_true ⟨one_zero, h0⟩]; rfl
  · cases h
theorem sumB_take (bl : List ByteArray) (row : List Int) (z : ByteArray) (i : Nat) (h : i < row.length) : sumB bl (row.take (i + 1)) z = xorB (sumB bl (row.take i) z) (bl.getD (row.getD i 0).toNat ⟨#[]⟩) := by
  unfold sumB
  rw [List.take_succ_eq_append_getElem h, List.foldl_append, getD_lt h]; rfl
theorem K_spec_l2Sum : Sound1 Try.prog EKs F_spec_l2Sum.f S_spec_l2Sum := snd ok_spec_l2Sum [(F_spec_l1Many.f, S_spec_l1Many), (F_spec_l2Block.f, S_spec_l2Block)] (tabF_cons K_spec_l1Many (tabF_cons K_spec_l2Block (tabF_nil _ _))) fun args sp h hp => by
  unfold S_spec_l2Sum at h
  split at h
  · rename_i bl row n
    cases h
    simp only [Bool.and_eq_true, decide_eq_true_eq, List.all_eq_true] at hp
    obtain ⟨⟨h0, h1, h2⟩, hb, hr⟩ := hp
    refine ⟨rfl, row.length + 1, (spec_l2Sum_run _ _ _ _).trans ?_⟩
    unfold spec_l2Sum_T
    rw [decide_eq_true ⟨one_zero, h0, by omega⟩]
    refine (fix4 (T := fun k => spec_l2Sum_T3 k) (fun i out row' bl' => row' = row ∧ bl' = bl ∧ 0 ≤ i ∧ i ≤ row.length ∧ out = sumB bl (row.take i.toNat) (zerosB n.toNat) ∧ (out.size : Int) = n) (fun i _ _ _ => row.length - i.toNat) (fun _ _ _ _ => ([T (sumB bl row (zerosB n.toNat))], [])) ?_ _ _ _ _ _ ⟨rfl, rfl, by omega, by omega, rfl, by rw [zerosB_size]; omega⟩ (by omega))
    rintro i out row' bl' K ⟨rfl, rfl, q0, q1, rfl, q2⟩ hK
    unfold spec_l2Sum_T3
    simp only [Bool.cond_eq_ite, decide_eq_true_eq]
    by_cases hi : i < row'.length
    · have hlt : i.toNat < row'.length := by omega
      have hx := hr _ (List.getElem_mem hlt)
      rw [← getD_lt hlt 0] at hx
      have hlt2 : (row'.getD i.toNat 0).toNat < bl'.length := by omega
      have hsz := hb _ (List.getElem_mem hlt2)
      rw [← getD_lt hlt2 ⟨#[]⟩] at hsz
      rw [if_pos hi, if_pos q0, if_pos hi, if_pos hx.1, if_pos hx.2, if_pos ⟨by omega, by omega⟩, w64i q0 (by omega)]
      refine hK _ _ _ _ ⟨rfl, rfl, by omega, by omega, ?_, ?_⟩ (by omega)
      · rw [toNat_succ q0, sumB_take _ _ _ _ hlt]
      · rw [xorB_size _ _ (by omega)]; exact q2
    · rw [if_neg hi, List.take_of_length_le (by omega)]
  · cases h
end Go.Proofs.Ythcahoeoofggjaa.V
