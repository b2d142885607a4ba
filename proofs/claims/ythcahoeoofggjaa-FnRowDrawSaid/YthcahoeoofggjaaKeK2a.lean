/- What functions come to, and that they do so; conditions: those that each theorem states. -/
import Derived.Test.YthcahoeoofggjaaDe2G
set_option linter.unusedVariables false
set_option linter.unusedSimpArgs false
namespace Go.Proofs.Ythcahoeoofggjaa.V
open Go Vx Vx.N
/-! ### The reader -/
theorem rdOk_of {b : List Int} {p : Int} (h : rdOk b p = true) : (b.length ≤ 2000 ∧ 0 ≤ p ∧ p < 1000000) ∧ ∀ x ∈ b, 0 ≤ x ∧ x < 256 := by
  simp only [rdOk, Bool.and_eq_true, decide_eq_true_eq, List.all_eq_true] at h
  exact h
theorem rdOk_le {b : List Int} {p q : Int} (h : rdOk b p = true) (h0 : 0 ≤ q) (h1 : q ≤ p) : rdOk b q = true := by
  simp only [rdOk, Bool.and_eq_true, decide_eq_true_eq, List.all_eq_true] at h ⊢
  exact ⟨⟨h.1.1, h0, by omega⟩, h.2⟩
theorem rdOk_mk {b : List Int} {p q : Int} (h : rdOk b p = true) (h0 : 0 ≤ q) (h1 : q < 1000000) : rdOk b q = true := by
  simp only [rdOk, Bool.and_eq_true, decide_eq_true_eq, List.all_eq_true] at h ⊢
  exact ⟨⟨h.1.1, h0, h1⟩, h.2⟩
theorem getD_byte {b : List Int} (h : ∀ x ∈ b, 0 ≤ x ∧ x < 256) (i : Nat) : 0 ≤ b.getD i 0 ∧ b.getD i 0 < 256 := by
  by_cases hi : i < b.length
  · rw [getD_lt hi]; exact h _ (List.getElem_mem hi)
  · rw [List.getD_eq_getElem?_getD, List.getElem?_eq_none (by omega)]; decide
theorem mixE (a c p q : Int) (ha : 0 ≤ a ∧ a < 256) (hc : 0 ≤ c ∧ c < 256) (hp : 0 ≤ p ∧ p < 1000000) (hq : 0 ≤ q ∧ q < 1000000) :
    IntKind.wrap .i64 (IntKind.wrap .i64 (IntKind.wrap .i64 (IntKind.wrap .i64 (IntKind.wrap .i64 a * 131) + IntKind.wrap .i64 (IntKind.wrap .i64 c * 1117)) + IntKind.wrap .i64 (p * 29)) + IntKind.wrap .i64 (IntKind.wrap .i64 q * 53)) = a * 131 + c * 1117 + p * 29 + q * 53 := by
  rw [w64 (x := a) (by omega) (by omega), w64 (x := c) (by omega) (by omega), w64 (x := q) (by omega) (by omega), w64 (x := a * 131) (by omega) (by omega), w64 (x := c * 1117) (by omega) (by omega), w64 (x := p * 29) (by omega) (by omega), w64 (x := q * 53) (by omega) (by omega), w64 (x := a * 131 + c * 1117) (by omega) (by omega), w64 (x := a * 131 + c * 1117 + p * 29) (by omega) (by omega), w64 (by omega) (by omega)]
theorem xor64 (x y : Int) (hx : 0 ≤ x ∧ x < 4611686018427387904) (hy : 0 ≤ y ∧ y < 4611686018427387904) : 0 ≤ IntKind.wrap .i64 ↑(BitVec.toNat (BitVec.ofInt (IntKind.bits .i64) x ^^^ BitVec.ofInt (IntKind.bits .i64) y)) := by
  obtain ⟨a, rfl⟩ : ∃ a : Nat, x = a := ⟨x.toNat, by omega⟩
  obtain ⟨b, rfl⟩ : ∃ b : Nat, y = b := ⟨y.toNat, by omega⟩
  have hc : a ^^^ b < 2 ^ 62 := Nat.xor_lt_two_pow (by omega) (by omega)
  simp only [BitVec.ofInt_natCast, BitVec.toNat_xor, BitVec.toNat_ofNat]
  rw [Nat.mod_eq_of_lt (show a < 2 ^ IntKind.i64.bits from by show a < 2 ^ 64; omega), Nat.mod_eq_of_lt (show b < 2 ^ IntKind.i64.bits from by show b < 2 ^ 64; omega)]
  rw [w64 (by omega) (by omega)]
  omega
theorem tmod_in {x n : Int} (hx : 0 ≤ x) (hn : 1 ≤ n) : 0 ≤ Int.tmod x n ∧ Int.tmod x n < n := ⟨Int.tmod_nonneg _ hx, Int.tmod_lt_of_pos _ (by omega)⟩
theorem pick_T (b : List Int) (p n : Int) (h : rdOk b p = true) : ∃ x, spec_l1Rd_pick_T b p n = some ([I x], [rdC b (p + 1)]) ∧ 0 ≤ x ∧ (1 ≤ n → x < n) ∧ (n < 1 → x = 0) := by
  obtain ⟨⟨h1, h2, h3⟩, h4⟩ := rdOk_of h
  have e1 : IntKind.wrap .i64 (p + 1) = p + 1 := w64i h2 (by omega)
  have e2 : IntKind.wrap .i64 (p + 1 - 1) = p := by rw [w64 (by omega) (by omega)]; omega
  unfold spec_l1Rd_pick_T
  simp only [Bool.cond_eq_ite, decide_eq_true_eq, beq_iff_eq, Bool.not_eq_true', decide_eq_false_iff_not]
  rw [e1, e2]
  by_cases hn : n < 1
  · rw [if_pos hn]; exact ⟨0, rfl, by omega, by omega, fun _ => rfl⟩
  rw [if_neg hn]
  by_cases hl : (b.length : Int) = 0
  · rw [if_pos hl]; exact ⟨0, rfl, by omega, by omega, fun _ => rfl⟩
  rw [if_neg hl]
  by_cases hp : p < b.length
  · rw [if_pos hp, if_pos h2, if_pos hp, if_pos (by omega)]
    have hb := getD_byte h4 p.toNat
    rw [w64 (by omega) (by omega)]
    have := tmod_in hb.1 (show 1 ≤ n by omega)
    exact ⟨_, rfl, this.1, fun _ => this.2, fun h => by omega⟩
  · have t1 := tmod_in h2 (show 1 ≤ (b.length : Int) by omega)
    have e3 : IntKind.wrap .i64 (p * 7) = p * 7 := w64 (by omega) (by omega)
    have e4 : IntKind.wrap .i64 (p * 7 + 3) = p * 7 + 3 := w64 (by omega) (by omega)
    have t2 := tmod_in (show 0 ≤ p * 7 + 3 by omega) (show 1 ≤ (b.length : Int) by omega)
    rw [e3, e4, if_neg hp, if_pos hl, if_pos t1.1, if_pos t1.2, if_pos hl, if_pos t2.1, if_pos t2.2, if_pos hl, if_pos (by omega)]
    have q0 : 0 ≤ Int.tdiv p b.length := Int.tdiv_nonneg h2 (by omega)
    have q1 : Int.tdiv p b.length < 1000000 := by
      have : Int.tdiv p b.length ≤ p := by
        rw [Int.tdiv_eq_ediv_of_nonneg h2]
        exact Int.ediv_le_self _ h2
      omega
    have hb1 := getD_byte h4 (Int.toNat (Int.tmod p b.length))
    have hb2 := getD_byte h4 (Int.toNat (Int.tmod (p * 7 + 3) b.length))
    rw [mixE _ _ _ _ hb1 hb2 ⟨h2, h3⟩ ⟨q0, q1⟩]
    have hX : 0 ≤ b.getD (Int.toNat (Int.tmod p b.length)) 0 * 131 + b.getD (Int.toNat (Int.tmod (p * 7 + 3) b.length)) 0 * 1117 + p * 29 + Int.tdiv p b.length * 53 := by omega
    have hX2 : b.getD (Int.toNat (Int.tmod p b.length)) 0 * 131 + b.getD (Int.toNat (Int.tmod (p * 7 + 3) b.length)) 0 * 1117 + p * 29 + Int.tdiv p b.length * 53 < 4611686018427387904 := by omega
    generalize b.getD (Int.toNat (Int.tmod p b.length)) 0 * 131 + b.getD (Int.toNat (Int.tmod (p * 7 + 3) b.length)) 0 * 1117 + p * 29 + Int.tdiv p b.length * 53 = X at hX hX2 ⊢
    have hY : IntKind.wrap .i64 (Int.tdiv X 64) = X / 64 := by
      rw [Int.tdiv_eq_ediv_of_nonneg hX, w64 (by omega) (by omega)]
    rw [hY]
    have hx := xor64 X (X / 64) ⟨hX, hX2⟩ ⟨by omega, by omega⟩
    have := tmod_in hx (show 1 ≤ n by omega)
    exact ⟨_, rfl, this.1, fun _ => this.2, fun h => by omega⟩
theorem pick_eq {b : List Int} {p n : Int} (h : rdOk b p = true) : spec_l1Rd_pick_T b p n = some ([I (pickV b p n)], [rdC b (p + 1)]) ∧ 0 ≤ pickV b p n ∧ (1 ≤ n → pickV b p n < n) ∧ (n < 1 → pickV b p n = 0) := by
  obtain ⟨x, e, h1, h2, h3⟩ := pick_T b p n h
  have : pickV b p n = x := by unfold pickV; rw [e]
  rw [this]
  exact ⟨e, h1, h2, h3⟩
theorem K_spec_l1Rd_pick : Sound1 Try.prog EKs F_spec_l1Rd_pick.f S_spec_l1Rd_pick := snd ok_spec_l1Rd_pick [] (tabF_nil _ _) fun args sp h hp => by
  unfold S_spec_l1Rd_pick at h
  split at h
  · cases h
    exact ⟨rfl, 0, (spec_l1Rd_pick_run _ _ _ _).trans (pick_eq hp).1⟩
  · cases h
theorem K_spec_l1Open : Sound1 Try.prog EKs F_spec_l1Open.f S_spec_l1Open := snd ok_spec_l1Open [] (tabF_nil _ _) fun args sp h hp => by
  unfold S_spec_l1Open at h
  split at h
  · rename_i b
    cases h
    refine ⟨rfl, 0, (spec_l1Open_run _ _).trans ?_⟩
    unfold spec_l1Open_T
    simp only [Bool.cond_eq_ite, decide_eq_true_eq]
    by_cases hb : (b.length : Int) > 2000
    · rw [if_pos hb, if_pos (by omega)]; rfl
    · rw [if_neg hb, List.take_of_length_le (by omega)]
  · cases h
noncomputable abbrev tPick : List (FuncId × (List DA → Option Sp)) := [(F_spec_l1Rd_pick.f, S_spec_l1Rd_pick)]
theorem rowD_succ (b : List Int) (p : Int) (n : Nat) : rowD b p (n + 1) = rowD b p n ++ (if pickV b (p + (n : Nat)) 3 = 0 then [(n : Int)] else []) := by
  unfold rowD
  rw [List.range_succ, List.filter_append, List.map_append]
  congr 1
  by_cases hb : pickV b (p + (n : Nat)) 3 = 0 <;> simp [hb]
theorem rowD_len (b : List Int) (p : Int) (n : Nat) : (rowD b p n).length ≤ n := by
  unfold rowD
  rw [List.length_map]
  exact Nat.le_trans (List.length_filter_le _ _) (by rw [List.length_range]; omega)
theorem K_spec_l15Row : Sound1 Try.prog EKs F_spec_l15Row.f S_spec_l15Row := snd ok_spec_l15Row tPick (tabF_cons K_spec_l1Rd_pick (tabF_nil _ _)) fun args sp h hp => by
  unfold S_spec_l15Row at h
  split at h
  · rename_i b p n
    cases h
    simp only [Bool.and_eq_true, decide_eq_true_eq] at hp
    obtain ⟨g1, g2, h0, h1⟩ := hp
    have gb := (rdOk_of g1).1
    refine ⟨rfl, n.toNat + 1, (spec_l15Row_run _ _ _ _).trans ?_⟩
    refine fix5 (T := fun k => spec_l15Row_T3 k) (fun i n' b' p' r => n' = n ∧ b' = b ∧ 0 ≤ i ∧ i ≤ n ∧ p' = p + i ∧ r = rowD b p i.toNat) (fun i _ _ _ _ => n.toNat - i.toNat) (fun _ _ _ _ _ => ([Is (rowD b p n.toNat)], [rdC b (p + n)])) ?_ _ _ _ _ _ _ ⟨rfl, rfl, by omega, h0, by omega, by simp [rowD]⟩ (by omega)
    rintro i n' b' p' r K ⟨rfl, rfl, q1, q2, rfl, rfl⟩ hK
    unfold spec_l15Row_T3
    simp only [Bool.cond_eq_ite, decide_eq_true_eq, beq_iff_eq]
    by_cases hi : i < n'
    · have hl := rowD_len b' p i.toNat
      have ei : ((i.toNat : Nat) : Int) = i := by omega
      have hs := rowD_succ b' p i.toNat
      rw [ei] at hs
      rw [if_pos hi, if_pos (rdOk_le g2 (by omega) (by omega)), w64i q1 (by omega)]
      by_cases hk : pickV b' (p + i) 3 = 0
      · rw [if_pos hk, if_pos (by omega)]
        refine hK _ _ _ _ _ ⟨rfl, rfl, by omega, by omega, by omega, ?_⟩ (by omega)
        rw [show (i + 1).toNat = i.toNat + 1 by omega, hs, if_pos hk]
      · rw [if_neg hk]
        refine hK _ _ _ _ _ ⟨rfl, rfl, by omega, by omega, by omega, ?_⟩ (by omega)
        rw [show (i + 1).toNat = i.toNat + 1 by omega, hs, if_neg hk, List.append_nil]
    · rw [if_neg hi, show i = n' by omega]
  · cases h
theorem K_spec_l15BadRow : Sound1 Try.prog EKs F_spec_l15BadRow.f S_spec_l15BadRow := snd ok_spec_l15BadRow [(F_spec_l1Rd_pick.f, S_spec_l1Rd_pick), (F_spec_l15Row.f, S_spec_l15Row)] (tabF_cons K_spec_l1Rd_pick (tabF_cons K_spec_l15Row (tabF_nil _ _))) fun args sp h hp => by
  unfold S_spec_l15BadRow at h
  split at h
  · rename_i b p n
    cases h
    have hp' := hp
    simp only [Bool.and_eq_true, decide_eq_true_eq] at hp
    obtain ⟨g1, g2, h0, h1⟩ := hp
    have gb := (rdOk_of g1).1
    refine ⟨rfl, 0, (spec_l15BadRow_run _ _ _ _).trans ?_⟩
    unfold spec_l15BadRow_T badRowD
    have hl := rowD_len b p n.toNat
    have hv := (pick_eq (n := 16) g2).2
    have ei : ((n.toNat : Nat) : Int) = n := by omega
    rw [ei]
    simp only [Bool.cond_eq_ite, decide_eq_true_eq, beq_iff_eq]
    rw [if_pos hp', if_pos g2]
    by_cases c0 : pickV b (p + n) 16 = 0
    · rw [if_pos c0, if_pos (by omega), c0]; rfl
    · rw [if_neg c0]
      by_cases c1 : pickV b (p + n) 16 = 1
      · rw [if_pos c1, if_pos (by omega), c1]; rfl
      · rw [if_neg c1]
        by_cases c2 : pickV b (p + n) 16 = 2
        · rw [if_pos c2, if_pos (by omega), c2]; rfl
        · rw [if_neg c2]
          have : ∃ k, (pickV b (p + n) 16).toNat = k + 3 := ⟨(pickV b (p + n) 16).toNat - 3, by omega⟩
          obtain ⟨k, hk⟩ := this
          rw [hk]; rfl
  · cases h
theorem blockL_succ (b : List Int) (p : Int) (n : Nat) : blockL b p (n + 1) = blockL b p n ++ [IntKind.wrap .u8 (IntKind.wrap .i64 (pickV b (p + 2 * (n : Nat)) 4 * pickV b (p + 2 * (n : Nat) + 1) 80))] := by
  unfold blockL
  rw [List.range_succ, List.map_append]; rfl
theorem blockD_size (b : List Int) (p : Int) (n : Nat) : (blockD b p n).size = n := by
  unfold blockD blockL
  rw [strOf_size, List.length_map, List.length_range]
theorem byOk_rd {b : List Int} (h : byOk b = true) : rdOk (b.take 2000) 0 = true := by
  simp only [byOk, rdOk, Bool.and_eq_true, decide_eq_true_eq, List.all_eq_true] at h ⊢
  exact ⟨⟨by simp; omega, by omega, by omega⟩, fun x hx => h x (List.mem_of_mem_take hx)⟩
theorem ba_toList_eq {a b : ByteArray} : (a.toList == b.toList) = decide (a = b) := by
  rw [Bool.eq_iff_iff, beq_iff_eq, decide_eq_true_iff]
  constructor
  · intro h
    apply ByteArray.ext
    apply Array.toList_inj.1
    rw [← Go.ByteArray.toList_eq, ← Go.ByteArray.toList_eq]
    exact h
  · rintro rfl; rfl

/-! ### Reducing, as bits -/
theorem list_eq_at {α : Type} [DecidableEq α] (a b : List α) (z : α) (hl : a.length = b.length) (i : Nat) (h : i < a.length) : decide (a.drop i = b.drop i) = if a.getD i z = b.getD i z then decide (a.drop (i + 1) = b.drop (i + 1)) else false := by
  rw [List.drop_eq_getElem_cons h, List.drop_eq_getElem_cons (show i < b.length by omega), getD_lt h, getD_lt (show i < b.length by omega)]
  by_cases c : a[i] = b[i]
  · rw [if_pos c]
    exact decide_eq_decide.2 ⟨fun h => (List.cons.inj h).2, fun h => by rw [c, h]⟩
  · rw [if_neg c, decide_eq_false fun h => c (List.cons.inj h).1]
theorem byOk_wf {l : List Int} (h : ∀ x ∈ l, (Lit.int .u8 x).wf = true) : byOk l = true := by
  simp only [byOk, List.all_eq_true, decide_eq_true_eq]
  intro x hx
  have := h x hx
  simp [Lit.wf, IntKind.min, IntKind.max, IntKind.bits, IntKind.signed] at this
  omega
end Go.Proofs.Ythcahoeoofggjaa.V
