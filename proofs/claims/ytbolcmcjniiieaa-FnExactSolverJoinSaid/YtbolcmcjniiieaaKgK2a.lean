/- What functions come to, and that they do so; conditions: those that each theorem states. -/
import Derived.Test.YtbolcmcjniiieaaDg2G
set_option linter.unusedVariables false
set_option linter.unusedSimpArgs false
namespace Go.Proofs.Ytbolcmcjniiieaa.V
open Go Vx Vx.N
/-! ### The reader -/
theorem rdOk_of {b : List Int} {p : Int} (h : rdOk b p = true) : (b.length ≤ 2000 ∧ 0 ≤ p ∧ p < 1000000) ∧ ∀ x ∈ b, 0 ≤ x ∧ x < 256 := by
  simp only [rdOk, Bool.and_eq_true, decide_eq_true_eq, List.all_eq_true] at h
  exact h
theorem rdOk_le {b : List Int} {p q : Int} (h : rdOk b p = true) (h0 : 0 ≤ q) (h1 : q ≤ p) : rdOk b q = true := by
  simp only [rdOk, Bool.and_eq_true, decide_eq_true_eq, List.all_eq_true] at h ⊢
  exact ⟨⟨h.1.1, h0, by omega⟩, h.2⟩
theorem rdOk_mk {b : List Int} {p q : Int} (h : rdOk b p = true) (h0 : 0 ≤ q) (h1 : q < 1000000) : rdOk b q = true := by
  simp only [rdOk, Bool.and_eq_true, decide_eq_true_eq, List.all_eq_true] at h ⊢
  exact ⟨⟨h.1.1, h0, h1⟩, h.2⟩
theorem getD_byte {b : List Int} (h : ∀ x ∈ b, 0 ≤ x ∧ x < 256) (i : Nat) : 0 ≤ b.getD i 0 ∧ b.getD i 0 < 256 := by
  by_cases hi : i < b.length
  · rw [getD_lt hi]; exact h _ (List.getElem_mem hi)
  · rw [List.getD_eq_getElem?_getD, List.getElem?_eq_none (by omega)]; decide
theorem mixE (a c p q : Int) (ha : 0 ≤ a ∧ a < 256) (hc : 0 ≤ c ∧ c < 256) (hp : 0 ≤ p ∧ p < 1000000) (hq : 0 ≤ q ∧ q < 1000000) :
    IntKind.wrap .i64 (IntKind.wrap .i64 (IntKind.wrap .i64 (IntKind.wrap .i64 (IntKind.wrap .i64 a * 131) + IntKind.wrap .i64 (IntKind.wrap .i64 c * 1117)) + IntKind.wrap .i64 (p * 29)) + IntKind.wrap .i64 (IntKind.wrap .i64 q * 53)) = a * 131 + c * 1117 + p * 29 + q * 53 := by
  rw [w64 (x := a) (by omega) (by omega), w64 (x := c) (by omega) (by omega), w64 (x := q) (by omega) (by omega), w64 (x := a * 131) (by omega) (by omega), w64 (x := c * 1117) (by omega) (by omega), w64 (x := p * 29) (by omega) (by omega), w64 (x := q * 53) (by omega) (by omega), w64 (x := a * 131 + c * 1117) (by omega) (by omega), w64 (x := a * 131 + c * 1117 + p * 29) (by omega) (by omega), w64 (by omega) (by omega)]
theorem xor64 (x y : Int) (hx : 0 ≤ x ∧ x < 4611686018427387904) (hy : 0 ≤ y ∧ y < 4611686018427387904) : 0 ≤ IntKind.wrap .i64 ↑(BitVec.toNat (BitVec.ofInt (IntKind.bits .i64) x ^^^ BitVec.ofInt (IntKind.bits .i64) y)) := by
  obtain ⟨a, rfl⟩ : ∃ a : Nat, x = a := ⟨x.toNat, by omega⟩
  obtain ⟨b, rfl⟩ : ∃ b : Nat, y = b := ⟨y.toNat, by omega⟩
  have hc : a ^^^ b < 2 ^ 62 := Nat.xor_lt_two_pow (by omega) (by omega)
  simp only [BitVec.ofInt_natCast, BitVec.toNat_xor, BitVec.toNat_ofNat]
  rw [Nat.mod_eq_of_lt (show a < 2 ^ IntKind.i64.bits from by show a < 2 ^ 64; omega), Nat.mod_eq_of_lt (show b < 2 ^ IntKind.i64.bits from by show b < 2 ^ 64; omega)]
  rw [w64 (by omega) (by omega)]
  omega
theorem tmod_in {x n : Int} (hx : 0 ≤ x) (hn : 1 ≤ n) : 0 ≤ Int.tmod x n ∧ Int.tmod x n < n := ⟨Int.tmod_nonneg _ hx, Int.tmod_lt_of_pos _ (by omega)⟩
theorem pick_T (b : List Int) (p n : Int) (h : rdOk b p = true) : ∃ x, spec_l1Rd_pick_T b p n = some ([I x], [rdC b (p + 1)]) ∧ 0 ≤ x ∧ (1 ≤ n → x < n) ∧ (n < 1 → x = 0) := by
  obtain ⟨⟨h1, h2, h3⟩, h4⟩ := rdOk_of h
  have e1 : IntKind.wrap .i64 (p + 1) = p + 1 := w64i h2 (by omega)
  have e2 : IntKind.wrap .i64 (p + 1 - 1) = p := by rw [w64 (by omega) (by omega)]; omega
  unfold spec_l1Rd_pick_T
  simp only [Bool.cond_eq_ite, decide_eq_true_eq, beq_iff_eq, Bool.not_eq_true', decide_eq_false_iff_not]
  rw [e1, e2]
  by_cases hn : n < 1
  · rw [if_pos hn]; exact ⟨0, rfl, by omega, by omega, fun _ => rfl⟩
  rw [if_neg hn]
  by_cases hl : (b.length : Int) = 0
  · rw [if_pos hl]; exact ⟨0, rfl, by omega, by omega, fun _ => rfl⟩
  rw [if_neg hl]
  by_cases hp : p < b.length
  · rw [if_pos hp, if_pos h2, if_pos hp, if_pos (by omega)]
    have hb := getD_byte h4 p.toNat
    rw [w64 (by omega) (by omega)]
    have := tmod_in hb.1 (show 1 ≤ n by omega)
    exact ⟨_, rfl, this.1, fun _ => this.2, fun h => by omega⟩
  · have t1 := tmod_in h2 (show 1 ≤ (b.length : Int) by omega)
    have e3 : IntKind.wrap .i64 (p * 7) = p * 7 := w64 (by omega) (by omega)
    have e4 : IntKind.wrap .i64 (p * 7 + 3) = p * 7 + 3 := w64 (by omega) (by omega)
    have t2 := tmod_in (show 0 ≤ p * 7 + 3 by omega) (show 1 ≤ (b.length : Int) by omega)
    rw [e3, e4, if_neg hp, if_pos hl, if_pos t1.1, if_pos t1.2, if_pos hl, if_pos t2.1, if_pos t2.2, if_pos hl, if_pos (by omega)]
    have q0 : 0 ≤ Int.tdiv p b.length := Int.tdiv_nonneg h2 (by omega)
    have q1 : Int.tdiv p b.length < 1000000 := by
      have : Int.tdiv p b.length ≤ p := by
        rw [Int.tdiv_eq_ediv_of_nonneg h2]
        exact Int.ediv_le_self _ h2
      omega
    have hb1 := getD_byte h4 (Int.toNat (Int.tmod p b.length))
    have hb2 := getD_byte h4 (Int.toNat (Int.tmod (p * 7 + 3) b.length))
    rw [mixE _ _ _ _ hb1 hb2 ⟨h2, h3⟩ ⟨q0, q1⟩]
    have hX : 0 ≤ b.getD (Int.toNat (Int.tmod p b.length)) 0 * 131 + b.getD (Int.toNat (Int.tmod (p * 7 + 3) b.length)) 0 * 1117 + p * 29 + Int.tdiv p b.length * 53 := by omega
    have hX2 : b.getD (Int.toNat (Int.tmod p b.length)) 0 * 131 + b.getD (Int.toNat (Int.tmod (p * 7 + 3) b.length)) 0 * 1117 + p * 29 + Int.tdiv p b.length * 53 < 4611686018427387904 := by omega
    generalize b.getD (Int.toNat (Int.tmod p b.length)) 0 * 131 + b.getD (Int.toNat (Int.tmod (p * 7 + 3) b.length)) 0 * 1117 + p * 29 + Int.tdiv p b.length * 53 = X at hX hX2 ⊢
    have hY : IntKind.wrap .i64 (Int.tdiv X 64) = X / 64 := by
      rw [Int.tdiv_eq_ediv_of_nonneg hX, w64 (by omega) (by omega)]
    rw [hY]
    have hx := xor64 X (X / 64) ⟨hX, hX2⟩ ⟨by omega, by omega⟩
    have := tmod_in hx (show 1 ≤ n by omega)
    exact ⟨_, rfl, this.1, fun _ => this.2, fun h => by omega⟩
theorem pick_eq {b : List Int} {p n : Int} (h : rdOk b p = true) : spec_l1Rd_pick_T b p n = some ([I (pickV b p n)], [rdC b (p + 1)]) ∧ 0 ≤ pickV b p n ∧ (1 ≤ n → pickV b p n < n) ∧ (n < 1 → pickV b p n = 0) := by
  obtain ⟨x, e, h1, h2, h3⟩ := pick_T b p n h
  have : pickV b p n = x := by unfold pickV; rw [e]
  rw [this]
  exact ⟨e, h1, h2, h3⟩
theorem K_spec_l1Rd_pick : Sound1 Try.prog EKs F_spec_l1Rd_pick.f S_spec_l1Rd_pick := snd ok_spec_l1Rd_pick [] (tabF_nil _ _) fun args sp h hp => by
  unfold S_spec_l1Rd_pick at h
  split at h
  · cases h
    exact ⟨rfl, 0, (spec_l1Rd_pick_run _ _ _ _).trans (pick_eq hp).1⟩
  · cases h
theorem K_spec_l1Open : Sound1 Try.prog EKs F_spec_l1Open.f S_spec_l1Open := snd ok_spec_l1Open [] (tabF_nil _ _) fun args sp h hp => by
  unfold S_spec_l1Open at h
  split at h
  · rename_i b
    cases h
    refine ⟨rfl, 0, (spec_l1Open_run _ _).trans ?_⟩
    unfold spec_l1Open_T
    simp only [Bool.cond_eq_ite, decide_eq_true_eq]
    by_cases hb : (b.length : Int) > 2000
    · rw [if_pos hb, if_pos (by omega)]; rfl
    · rw [if_neg hb, List.take_of_length_le (by omega)]
  · cases h
noncomputable abbrev tPick : List (FuncId × (List DA → Option Sp)) := [(F_spec_l1Rd_pick.f, S_spec_l1Rd_pick)]
theorem rowD_succ (b : List Int) (p : Int) (n : Nat) : rowD b p (n + 1) = rowD b p n ++ (if pickV b (p + (n : Nat)) 3 = 0 then [(n : Int)] else []) := by
  unfold rowD
  rw [List.range_succ, List.filter_append, List.map_append]
  congr 1
  by_cases hb : pickV b (p + (n : Nat)) 3 = 0 <;> simp [hb]
theorem rowD_len (b : List Int) (p : Int) (n : Nat) : (rowD b p n).length ≤ n := by
  unfold rowD
  rw [List.length_map]
  exact Nat.le_trans (List.length_filter_le _ _) (by rw [List.length_range]; omega)
theorem K_spec_l15Row : Sound1 Try.prog EKs F_spec_l15Row.f S_spec_l15Row := snd ok_spec_l15Row tPick (tabF_cons K_spec_l1Rd_pick (tabF_nil _ _)) fun args sp h hp => by
  unfold S_spec_l15Row at h
  split at h
  · rename_i b p n
    cases h
    simp only [Bool.and_eq_true, decide_eq_true_eq] at hp
    obtain ⟨g1, g2, h0, h1⟩ := hp
    have gb := (rdOk_of g1).1
    refine ⟨rfl, n.toNat + 1, (spec_l15Row_run _ _ _ _).trans ?_⟩
    refine fix5 (T := fun k => spec_l15Row_T3 k) (fun i n' b' p' r => n' = n ∧ b' = b ∧ 0 ≤ i ∧ i ≤ n ∧ p' = p + i ∧ r = rowD b p i.toNat) (fun i _ _ _ _ => n.toNat - i.toNat) (fun _ _ _ _ _ => ([Is (rowD b p n.toNat)], [rdC b (p + n)])) ?_ _ _ _ _ _ _ ⟨rfl, rfl, by omega, h0, by omega, by simp [rowD]⟩ (by omega)
    rintro i n' b' p' r K ⟨rfl, rfl, q1, q2, rfl, rfl⟩ hK
    unfold spec_l15Row_T3
    simp only [Bool.cond_eq_ite, decide_eq_true_eq, beq_iff_eq]
    by_cases hi : i < n'
    · have hl := rowD_len b' p i.toNat
      have ei : ((i.toNat : Nat) : Int) = i := by omega
      have hs := rowD_succ b' p i.toNat
      rw [ei] at hs
      rw [if_pos hi, if_pos (rdOk_le g2 (by omega) (by omega)), w64i q1 (by omega)]
      by_cases hk : pickV b' (p + i) 3 = 0
      · rw [if_pos hk, if_pos (by omega)]
        refine hK _ _ _ _ _ ⟨rfl, rfl, by omega, by omega, by omega, ?_⟩ (by omega)
        rw [show (i + 1).toNat = i.toNat + 1 by omega, hs, if_pos hk]
      · rw [if_neg hk]
        refine hK _ _ _ _ _ ⟨rfl, rfl, by omega, by omega, by omega, ?_⟩ (by omega)
        rw [show (i + 1).toNat = i.toNat + 1 by omega, hs, if_neg hk, List.append_nil]
    · rw [if_neg hi, show i = n' by omega]
  · cases h
theorem K_spec_l15BadRow : Sound1 Try.prog EKs F_spec_l15BadRow.f S_spec_l15BadRow := snd ok_spec_l15BadRow [(F_spec_l1Rd_pick.f, S_spec_l1Rd_pick), (F_spec_l15Row.f, S_spec_l15Row)] (tabF_cons K_spec_l1Rd_pick (tabF_cons K_spec_l15Row (tabF_nil _ _))) fun args sp h hp => by
  unfold S_spec_l15BadRow at h
  split at h
  · rename_i b p n
    cases h
    have hp' := hp
    simp only [Bool.and_eq_true, decide_eq_true_eq] at hp
    obtain ⟨g1, g2, h0, h1⟩ := hp
    have gb := (rdOk_of g1).1
    refine ⟨rfl, 0, (spec_l15BadRow_run _ _ _ _).trans ?_⟩
    unfold spec_l15BadRow_T badRowD
    have hl := rowD_len b p n.toNat
    have hv := (pick_eq (n := 16) g2).2
    have ei : ((n.toNat : Nat) : Int) = n := by omega
    rw [ei]
    simp only [Bool.cond_eq_ite, decide_eq_true_eq, beq_iff_eq]
    rw [if_pos hp', if_pos g2]
    by_cases c0 : pickV b (p + n) 16 = 0
    · rw [if_pos c0, if_pos (by omega), c0]; rfl
    · rw [if_neg c0]
      by_cases c1 : pickV b (p + n) 16 = 1
      · rw [if_pos c1, if_pos (by omega), c1]; rfl
      · rw [if_neg c1]
        by_cases c2 : pickV b (p + n) 16 = 2
        · rw [if_pos c2, if_pos (by omega), c2]; rfl
        · rw [if_neg c2]
          have : ∃ k, (pickV b (p + n) 16).toNat = k + 3 := ⟨(pickV b (p + n) 16).toNat - 3, by omega⟩
          obtain ⟨k, hk⟩ := this
          rw [hk]; rfl
  · cases h
theorem blockL_succ (b : List Int) (p : Int) (n : Nat) : blockL b p (n + 1) = blockL b p n ++ [IntKind.wrap .u8 (IntKind.wrap .i64 (pickV b (p + 2 * (n : Nat)) 4 * pickV b (p + 2 * (n : Nat) + 1) 80))] := by
  unfold blockL
  rw [List.range_succ, List.map_append]; rfl
theorem blockD_size (b : List Int) (p : Int) (n : Nat) : (blockD b p n).size = n := by
  unfold blockD blockL
  rw [strOf_size, List.length_map, List.length_range]
theorem K_spec_l15Block : Sound1 Try.prog EKs F_spec_l15Block.f S_spec_l15Block := snd ok_spec_l15Block tPick (tabF_cons K_spec_l1Rd_pick (tabF_nil _ _)) fun args sp h hp => by
  unfold S_spec_l15Block at h
  split at h
  · rename_i b p n
    cases h
    simp only [Bool.and_eq_true, decide_eq_true_eq] at hp
    obtain ⟨g1, g2, h0, h1⟩ := hp
    have gb := (rdOk_of g1).1
    refine ⟨rfl, n.toNat + 1, (spec_l15Block_run _ _ _ _).trans ?_⟩
    refine fix5 (T := fun k => spec_l15Block_T3 k) (fun i n' b' p' r => n' = n ∧ b' = b ∧ 0 ≤ i ∧ i ≤ n ∧ p' = p + 2 * i ∧ r = blockL b p i.toNat) (fun i _ _ _ _ => n.toNat - i.toNat) (fun _ _ _ _ _ => ([T (blockD b p n.toNat)], [rdC b (p + 2 * n)])) ?_ _ _ _ _ _ _ ⟨rfl, rfl, by omega, h0, by omega, by simp [blockL]⟩ (by omega)
    rintro i n' b' p' r K ⟨rfl, rfl, q1, q2, rfl, rfl⟩ hK
    unfold spec_l15Block_T3
    simp only [Bool.cond_eq_ite, decide_eq_true_eq, beq_iff_eq]
    by_cases hi : i < n'
    · have hl : (blockL b' p i.toNat).length = i.toNat := by simp [blockL]
      have ei : ((i.toNat : Nat) : Int) = i := by omega
      have hs := blockL_succ b' p i.toNat
      rw [ei] at hs
      rw [if_pos hi, if_pos (rdOk_le g2 (by omega) (by omega)), if_pos (rdOk_le g2 (by omega) (by omega)), if_pos (by omega), w64i q1 (by omega)]
      refine hK _ _ _ _ _ ⟨rfl, rfl, by omega, by omega, by omega, ?_⟩ (by omega)
      rw [show (i + 1).toNat = i.toNat + 1 by omega, hs]
    · rw [if_neg hi, show i = n' by omega]; rfl
  · cases h
theorem byOk_rd {b : List Int} (h : byOk b = true) : rdOk (b.take 2000) 0 = true := by
  simp only [byOk, rdOk, Bool.and_eq_true, decide_eq_true_eq, List.all_eq_true] at h ⊢
  exact ⟨⟨by simp; omega, by omega, by omega⟩, fun x hx => h x (List.mem_of_mem_take hx)⟩
theorem ba_toList_eq {a b : ByteArray} : (a.toList == b.toList) = decide (a = b) := by
  rw [Bool.eq_iff_iff, beq_iff_eq, decide_eq_true_iff]
  constructor
  · intro h
    apply ByteArray.ext
    apply Array.toList_inj.1
    rw [← Go.ByteArray.toList_eq, ← Go.ByteArray.toList_eq]
    exact h
  · rintro rfl; rfl

/-! ### Reducing, as bits -/
theorem list_eq_at {α : Type} [DecidableEq α] (a b : List α) (z : α) (hl : a.length = b.length) (i : Nat) (h : i < a.length) : decide (a.drop i = b.drop i) = if a.getD i z = b.getD i z then decide (a.drop (i + 1) = b.drop (i + 1)) else false := by
  rw [List.drop_eq_getElem_cons h, List.drop_eq_getElem_cons (show i < b.length by omega), getD_lt h, getD_lt (show i < b.length by omega)]
  by_cases c : a[i] = b[i]
  · rw [if_pos c]
    exact decide_eq_decide.2 ⟨fun h => (List.cons.inj h).2, fun h => by rw [c, h]⟩
  · rw [if_neg c, decide_eq_false fun h => c (List.cons.inj h).1]
theorem byOk_wf {l : List Int} (h : ∀ x ∈ l, (Lit.int .u8 x).wf = true) : byOk l = true := by
  simp only [byOk, List.all_eq_true, decide_eq_true_eq]
  intro x hx
  have := h x hx
  simp [Lit.wf, IntKind.min, IntKind.max, IntKind.bits, IntKind.signed] at this
  omega
end Go.Proofs.Ytbolcmcjniiieaa.V
namespace Go.Proofs.Ytbolcmcjniiieaa.V
open Go Vx Vx.N
/-! ### Rows that are ok -/
def rowAt (l : List Int) (hi : Int) (i : Nat) : Prop := 0 ≤ l.getD i 0 ∧ l.getD i 0 ≤ hi ∧ (0 < i → l.getD (i - 1) 0 < l.getD i 0)
def rowFrom (l : List Int) (hi : Int) (i : Nat) : Prop := ∀ j, i ≤ j → j < l.length → rowAt l hi j
theorem rowFrom_end {l : List Int} {hi : Int} {i : Nat} (h : l.length ≤ i) : rowFrom l hi i := fun j h1 h2 => by omega
theorem rowFrom_step {l : List Int} {hi : Int} {i : Nat} (h : i < l.length) : rowFrom l hi i ↔ rowAt l hi i ∧ rowFrom l hi (i + 1) := by
  constructor
  · exact fun H => ⟨H i (Nat.le_refl _) h, fun j h1 h2 => H j (by omega) h2⟩
  · rintro ⟨h0, H⟩ j h1 h2
    rcases Nat.eq_or_lt_of_le h1 with rfl | h3
    · exact h0
    · exact H j h3 h2
theorem rowAll (l : List Int) (c : Int) : (rowFrom l (IntKind.wrap .i64 (c - 1)) 0 ∧ 0 ≤ c ∧ c ≤ 24) ↔ RowP l c := by
  unfold RowP
  constructor
  · rintro ⟨H, h0, h1⟩
    have e : IntKind.wrap .i64 (c - 1) = c - 1 := w64 (by omega) (by omega)
    rw [e] at H
    refine ⟨h0, h1, ?_, ?_⟩
    · rw [List.pairwise_iff_getElem]
      intro i j hi hj hij
      have key : ∀ d, i + d + 1 < l.length → l[i]! < l[i + d + 1]! := by
        intro d
        induction d with
        | zero =>
          intro hd
          have := (H (i + 1) (by omega) hd).2.2 (by omega)
          simpa [List.getD, hi, hd] using this
        | succ d ih =>
          intro hd
          have h2 := ih (by omega)
          have h3 := (H (i + d + 2) (by omega) (by omega)).2.2 (by omega)
          have h4 : i + d + 1 < l.length := by omega
          have h5 : i + d + 2 < l.length := by omega
          simp [List.getD, h4, h5] at h3
          rw [getElem!_pos l i hi, getElem!_pos l (i + d + 1) h4] at h2
          rw [getElem!_pos l i hi, getElem!_pos l (i + (d + 1) + 1) (by omega)]
          have : l[i + (d + 1) + 1] = l[i + d + 2] := rfl
          omega
      have := key (j - i - 1) (by omega)
      have e2 : i + (j - i - 1) + 1 = j := by omega
      rw [e2] at this
      rwa [getElem!_pos l _ hi, getElem!_pos l _ hj] at this
    · intro x hx
      obtain ⟨i, hi, rfl⟩ := List.getElem_of_mem hx
      have := H i (Nat.zero_le _) hi
      simp [rowAt, List.getD, hi] at this
      omega
  · rintro ⟨h0, h1, hp, hm⟩
    have e : IntKind.wrap .i64 (c - 1) = c - 1 := w64 (by omega) (by omega)
    rw [e]
    refine ⟨fun j _ hj => ?_, h0, h1⟩
    have hmj := hm l[j] (List.getElem_mem hj)
    refine ⟨by simp [List.getD, hj]; omega, by simp [List.getD, hj]; omega, fun hj0 => ?_⟩
    have hj1 : j - 1 < l.length := by omega
    have := (List.pairwise_iff_getElem.1 hp) (j - 1) j hj1 hj (by omega)
    simpa [List.getD, hj, hj1] using this
theorem inB_f {n lo hi : Int} : inB n lo hi = false ↔ ¬ (lo ≤ n ∧ n ≤ hi) := by simp [inB]
theorem toNat_succ {i : Int} (h : 0 ≤ i) : (i + 1).toNat = i.toNat + 1 := by omega
/-- One look at a row's number. -/
theorem row_look {l : List Int} {hi i : Int} (h0 : 0 ≤ i) (h1 : i < l.length) {P : Prop} : cdec (rowFrom l hi i.toNat ∧ P) = (if ¬ (0 ≤ l.getD i.toNat 0 ∧ l.getD i.toNat 0 ≤ hi) then false else if 0 < i ∧ l.getD (i - 1).toNat 0 ≥ l.getD i.toNat 0 then false else cdec (rowFrom l hi (i + 1).toNat ∧ P)) := by
  rw [toNat_succ h0]
  have hs := rowFrom_step (l := l) (hi := hi) (i := i.toNat) (by omega)
  have e : (i - 1).toNat = i.toNat - 1 := by omega
  rw [e]
  by_cases c1 : 0 ≤ l.getD i.toNat 0 ∧ l.getD i.toNat 0 ≤ hi
  · rw [if_neg (fun h => h c1)]
    by_cases c2 : 0 < i ∧ l.getD (i.toNat - 1) 0 ≥ l.getD i.toNat 0
    · rw [if_pos c2]
      refine cdec_f fun h => ?_
      have := (hs.1 h.1).1.2.2 (by omega)
      omega
    · rw [if_neg c2]
      refine cdec_congr ?_
      rw [hs]
      have : rowAt l hi i.toNat := ⟨c1.1, c1.2, fun h => by
        have h' : 0 < i := by omega
        have := fun h => c2 ⟨h', h⟩
        omega⟩
      simp [this]
  · rw [if_pos c1]
    exact cdec_f fun h => c1 ⟨(hs.1 h.1).1.1, (hs.1 h.1).1.2.1⟩
theorem K_spec_RowOk : Sound1 Try.prog EKs F_spec_RowOk.f S_spec_RowOk := snd ok_spec_RowOk [(F_spec_l1In.f, S_spec_l1In)] (tabF_cons K_spec_l1In (tabF_nil _ _)) fun args sp h hp => by
  unfold S_spec_RowOk at h
  split at h
  · rename_i l c
    cases h
    have hl : l.length < 1000000000 := of_decide_eq_true hp
    refine ⟨rfl, l.length + 1, (spec_RowOk_run _ _ _).trans ?_⟩
    refine (fix3 (T := fun k => spec_RowOk_T2 k) (fun i c' l' => c' = c ∧ l' = l ∧ 0 ≤ i ∧ i ≤ l.length) (fun i _ _ => l.length - i.toNat) (fun i _ _ => ([B (cdec (rowFrom l (IntKind.wrap .i64 (c - 1)) i.toNat ∧ 0 ≤ c ∧ c ≤ 24))], [])) ?_ _ _ _ _ ⟨rfl, rfl, by omega, by omega⟩ (by omega)).trans ?_
    · rintro i c' l' K ⟨rfl, rfl, h0, h1⟩ hK
      unfold spec_RowOk_T2
      simp only [Bool.cond_eq_ite, decide_eq_true_eq, Bool.not_eq_true', inB_f]
      by_cases hi : i < l'.length
      · rw [if_pos hi, if_pos h0, if_pos hi, row_look h0 hi, w64i h0 (by omega), w64 (x := i - 1) (by omega) (by omega)]
        have nx := hK (i + 1) c' l' ⟨rfl, rfl, by omega, by omega⟩ (by omega)
        by_cases c1 : 0 ≤ l'.getD i.toNat 0 ∧ l'.getD i.toNat 0 ≤ IntKind.wrap .i64 (c' - 1)
        · rw [if_neg (not_not_intro c1), if_neg (not_not_intro c1)]
          by_cases c2 : 0 < i
          · rw [if_pos c2, if_pos (by omega), if_pos (by omega), if_pos h0, if_pos hi]
            by_cases c3 : l'.getD (i - 1).toNat 0 ≥ l'.getD i.toNat 0
            · rw [if_pos c3, if_pos ⟨c2, c3⟩]
            · rw [if_neg c3, if_neg (fun h => c3 h.2), nx]
          · rw [if_neg c2, if_neg (fun h => c2 h.1), nx]
        · rw [if_pos c1, if_pos c1]
      · rw [if_neg hi]
        have : rowFrom l' (IntKind.wrap .i64 (c' - 1)) i.toNat := rowFrom_end (by omega)
        simp only [this, true_and]
        rw [cdec_dec]; rfl
    · rw [show Int.toNat 0 = 0 from rfl, cdec_congr (rowAll l c), cdec_dec]
  · cases h
theorem K_impl_RowOk : Sound1 Try.prog EKs F_impl_RowOk.f S_impl_RowOk := snd ok_impl_RowOk [(F_impl_within.f, S_impl_within)] (tabF_cons K_impl_within (tabF_nil _ _)) fun args sp h hp => by
  unfold S_impl_RowOk S_spec_RowOk at h
  split at h
  · rename_i l c
    cases h
    have hl : l.length < 1000000000 := of_decide_eq_true hp
    refine ⟨rfl, l.length + 1, (impl_RowOk_run _ _ _).trans ?_⟩
    refine (fix5 (T := fun k => impl_RowOk_T2 k) (fun i n a c' l' => n = l.length ∧ a = l ∧ c' = c ∧ l' = l ∧ 0 ≤ i ∧ i ≤ l.length) (fun i _ _ _ _ => l.length - i.toNat) (fun i _ _ _ _ => ([B (cdec (rowFrom l (IntKind.wrap .i64 (c - 1)) i.toNat ∧ 0 ≤ c ∧ c ≤ 24))], [])) ?_ _ _ _ _ _ _ ⟨rfl, rfl, rfl, rfl, by omega, by omega⟩ (by omega)).trans ?_
    · rintro i n a c' l' K ⟨rfl, rfl, rfl, rfl, h0, h1⟩ hK
      unfold impl_RowOk_T2
      simp only [Bool.cond_eq_ite, decide_eq_true_eq, Bool.not_eq_true', inB_f]
      by_cases hi : i < l'.length
      · rw [if_pos hi, if_pos h0, if_pos hi, row_look h0 hi, w64i h0 (by omega), w64 (x := i - 1) (by omega) (by omega)]
        have nx := hK (i + 1) l'.length l' c' l' ⟨rfl, rfl, rfl, rfl, by omega, by omega⟩ (by omega)
        by_cases c1 : 0 ≤ l'.getD i.toNat 0 ∧ l'.getD i.toNat 0 ≤ IntKind.wrap .i64 (c' - 1)
        · rw [if_neg (not_not_intro c1), if_neg (not_not_intro c1)]
          by_cases c2 : 0 < i
          · rw [if_pos c2, if_pos (by omega), if_pos (by omega)]
            by_cases c3 : l'.getD (i - 1).toNat 0 ≥ l'.getD i.toNat 0
            · rw [if_pos c3, if_pos ⟨c2, c3⟩]
            · rw [if_neg c3, if_neg (fun h => c3 h.2), nx]
          · rw [if_neg c2, if_neg (fun h => c2 h.1), nx]
        · rw [if_pos c1, if_pos c1]
      · rw [if_neg hi]
        have : rowFrom l' (IntKind.wrap .i64 (c' - 1)) i.toNat := rowFrom_end (by omega)
        simp only [this, true_and]
        rw [cdec_dec]; rfl
    · rw [show Int.toNat 0 = 0 from rfl, cdec_congr (rowAll l c), cdec_dec]
  · cases h
/-! ### Noughts and sums -/
theorem zeros_one {s : ByteArray} (h : s.data.toList = [0]) : s = zerosB 1 := by
  apply ByteArray.ext
  apply Array.toList_inj.1
  rw [h]
  unfold zerosB
  rw [strOf_data]; rfl
theorem many_step (q p k : Nat) (h : 0 < k) : q + k * p = (if k % 2 = 1 then q + p else q) + k / 2 * (p + p) := by
  have e : k = 2 * (k / 2) + k % 2 := by omega
  have e2 : k * p = k / 2 * (p + p) + k % 2 * p := by
    calc k * p = (2 * (k / 2) + k % 2) * p := by rw [← e]
      _ = k / 2 * (p + p) + k % 2 * p := by rw [Nat.add_mul, ← Nat.two_mul, ← Nat.mul_assoc, Nat.mul_comm (k / 2) 2]
  rcases Nat.mod_two_eq_zero_or_one k with h0 | h0
  · rw [if_neg (by omega), e2, h0]; omega
  · rw [if_pos h0, e2, h0]; omega
theorem K_spec_l1Many : Sound1 Try.prog EKs F_spec_l1Many.f S_spec_l1Many := snd ok_spec_l1Many [] (tabF_nil _ _) fun args sp h hp => by
  unfold S_spec_l1Many at h
  split at h
  · rename_i s n
    cases h
    obtain ⟨hs, h0, h1⟩ := of_decide_eq_true hp
    have hs := zeros_one hs
    subst hs
    refine ⟨rfl, n.toNat + 1, (spec_l1Many_run _ _ _).trans ?_⟩
    refine (fix3 (T := fun k => spec_l1Many_T2 k) (fun out k s => 0 ≤ k ∧ out = zerosB out.size ∧ s = zerosB s.size ∧ out.size + k.toNat * s.size = n.toNat ∧ 1 ≤ s.size) (fun _ k _ => k.toNat) (fun _ _ _ => ([T (zerosB n.toNat)], [])) ?_ _ _ _ _ ⟨h0, rfl, by rw [zerosB_size], by rw [zerosB_size]; show 0 + _ = _; omega, by rw [zerosB_size]; omega⟩ (by omega))
    rintro out k s K ⟨q0, q1, q2, q3, q4⟩ hK
    unfold spec_l1Many_T2
    simp only [Bool.cond_eq_ite, decide_eq_true_eq, beq_iff_eq]
    by_cases hk : k > 0
    · have hst := many_step out.size s.size k.toNat (by omega)
      have hm : Int.tmod k 2 = ((k.toNat % 2 : Nat) : Int) := by rw [Int.tmod_eq_emod_of_nonneg q0]; omega
      have hge : s.size ≤ k.toNat * s.size := Nat.le_mul_of_pos_left _ (by omega)
      have hb : k.toNat ≤ k.toNat * s.size := Nat.le_mul_of_pos_right _ q4
      have hd : IntKind.wrap .i64 (Int.tdiv k 2) = ((k.toNat / 2 : Nat) : Int) := by
        rw [Int.tdiv_eq_ediv_of_nonneg q0, w64 (by omega) (by omega)]; omega
      have hss : s ++ s = zerosB (s.size + s.size) := by rw [← zerosB_add, ← q2]
      have hos : out ++ s = zerosB (out.size + s.size) := by rw [← zerosB_add, ← q2, ← q1]
      have z1 : (s ++ s).size = s.size + s.size := by rw [hss, zerosB_size]
      have z2 : (out ++ s).size = out.size + s.size := by rw [hos, zerosB_size]
      rw [if_pos hk, hm, hd]
      by_cases c : k.toNat % 2 = 1
      · rw [if_pos (by omega), if_pos (by omega), if_pos (by omega)]
        refine hK _ _ _ ⟨by omega, by rw [z2]; exact hos, by rw [z1]; exact hss, ?_, by omega⟩ (by omega)
        rw [if_pos c] at hst
        rw [z1, z2, Int.toNat_natCast]; omega
      · rw [if_neg (by omega), if_pos (by omega)]
        refine hK _ _ _ ⟨by omega, q1, by rw [z1]; exact hss, ?_, by omega⟩ (by omega)
        rw [if_neg c] at hst
        rw [z1, Int.toNat_natCast]; omega
    · rw [if_neg hk]
      have : k.toNat = 0 := by omega
      rw [this, Nat.zero_mul, Nat.add_zero] at q3
      rw [q1, q3]
  · cases h
theorem one_zero : (strOf [0]).data.toList = [0] := by rw [strOf_data]; rfl
theorem K_spec_l3Zero : Sound1 Try.prog EKs F_spec_l3Zero.f S_spec_l3Zero := snd ok_spec_l3Zero [(F_spec_l1Many.f, S_spec_l1Many)] (tabF_cons K_spec_l1Many (tabF_nil _ _)) fun args sp h hp => by
  unfold S_spec_l3Zero at h
  split at h
  · cases h
    have h0 := of_decide_eq_true hp
    refine ⟨rfl, 0, (spec_l3Zero_run _ _).trans ?_⟩
    unfold spec_l3Zero_T
    rw [decide_eq_true ⟨one_zero, h0⟩]; rfl
  · cases h
theorem sumB_take (bl : List ByteArray) (row : List Int) (z : ByteArray) (i : Nat) (h : i < row.length) : sumB bl (row.take (i + 1)) z = xorB (sumB bl (row.take i) z) (bl.getD (row.getD i 0).toNat ⟨#[]⟩) := by
  unfold sumB
  rw [List.take_succ_eq_append_getElem h, List.foldl_append, getD_lt h]; rfl
theorem K_spec_l2Sum : Sound1 Try.prog EKs F_spec_l2Sum.f S_spec_l2Sum := snd ok_spec_l2Sum [(F_spec_l1Many.f, S_spec_l1Many), (F_spec_l2Block.f, S_spec_l2Block)] (tabF_cons K_spec_l1Many (tabF_cons K_spec_l2Block (tabF_nil _ _))) fun args sp h hp => by
  unfold S_spec_l2Sum at h
  split at h
  · rename_i bl row n
    cases h
    simp only [Bool.and_eq_true, decide_eq_true_eq, List.all_eq_true] at hp
    obtain ⟨⟨h0, h1, h2⟩, hb, hr⟩ := hp
    refine ⟨rfl, row.length + 1, (spec_l2Sum_run _ _ _ _).trans ?_⟩
    unfold spec_l2Sum_T
    rw [decide_eq_true ⟨one_zero, h0, by omega⟩]
    refine (fix4 (T := fun k => spec_l2Sum_T3 k) (fun i out row' bl' => row' = row ∧ bl' = bl ∧ 0 ≤ i ∧ i ≤ row.length ∧ out = sumB bl (row.take i.toNat) (zerosB n.toNat) ∧ (out.size : Int) = n) (fun i _ _ _ => row.length - i.toNat) (fun _ _ _ _ => ([T (sumB bl row (zerosB n.toNat))], [])) ?_ _ _ _ _ _ ⟨rfl, rfl, by omega, by omega, rfl, by rw [zerosB_size]; omega⟩ (by omega))
    rintro i out row' bl' K ⟨rfl, rfl, q0, q1, rfl, q2⟩ hK
    unfold spec_l2Sum_T3
    simp only [Bool.cond_eq_ite, decide_eq_true_eq]
    by_cases hi : i < row'.length
    · have hlt : i.toNat < row'.length := by omega
      have hx := hr _ (List.getElem_mem hlt)
      rw [← getD_lt hlt 0] at hx
      have hlt2 : (row'.getD i.toNat 0).toNat < bl'.length := by omega
      have hsz := hb _ (List.getElem_mem hlt2)
      rw [← getD_lt hlt2 ⟨#[]⟩] at hsz
      rw [if_pos hi, if_pos q0, if_pos hi, if_pos hx.1, if_pos hx.2, if_pos ⟨by omega, by omega⟩, w64i q0 (by omega)]
      refine hK _ _ _ _ ⟨rfl, rfl, by omega, by omega, ?_, ?_⟩ (by omega)
      · rw [toNat_succ q0, sumB_take _ _ _ _ hlt]
      · rw [xorB_size _ _ (by omega)]; exact q2
    · rw [if_neg hi, List.take_of_length_le (by omega)]
  · cases h
end Go.Proofs.Ytbolcmcjniiieaa.V
namespace Go.Proofs.Ytbolcmcjniiieaa.V
open Go Vx Vx.N
/-! ### Solvers that are ok -/
theorem eqsFrom_end {c z : Int} {es : List Eqn} {i : Nat} (h : es.length ≤ i) : eqsFrom c z es i := fun j h1 h2 => by omega
theorem eqsFrom_step {c z : Int} {es : List Eqn} {i : Nat} (h : i < es.length) : eqsFrom c z es i ↔ eqAt c z es i ∧ eqsFrom c z es (i + 1) := by
  constructor
  · exact fun H => ⟨H i (Nat.le_refl _) h, fun j h1 h2 => H j (by omega) h2⟩
  · rintro ⟨h0, H⟩ j h1 h2
    rcases Nat.eq_or_lt_of_le h1 with rfl | h3
    · exact h0
    · exact H j h3 h2
theorem ne_len {l : List Int} (h : l ≠ []) : 0 < (l.length : Int) := by
  cases l with
  | nil => exact absurd rfl h
  | cons x l => simp only [List.length_cons]; omega
theorem nil_len {l : List Int} : (l.length : Int) = 0 ↔ l = [] := by
  cases l with
  | nil => simp
  | cons x l => simp only [List.length_cons]; constructor <;> intro h <;> first | omega | cases h
theorem pv (e : Eqn) : e.1.getD 0 0 = piv e := rfl
theorem getE_mem {es : List Eqn} {i : Nat} (h : i < es.length) : es.getD i eqD ∈ es := by rw [getD_lt h]; exact List.getElem_mem h
theorem smE_of {es : List Eqn} (h : smE es = true) : es.length < 1000000000 ∧ ∀ i, i < es.length → (es.getD i eqD).1.length < 1000000000 := by
  simp only [smE, Bool.and_eq_true, decide_eq_true_eq, List.all_eq_true] at h
  exact ⟨h.1, fun i hi => h.2 _ (getE_mem hi)⟩
theorem eq_bad {c z : Int} {es : List Eqn} {i : Nat} (hi : i < es.length) {P : Prop} (h : ¬ eqAt c z es i) : cdec (eqsFrom c z es i ∧ P) = false := cdec_f fun H => h ((eqsFrom_step hi).1 H.1).1
theorem eq_good {c z : Int} {es : List Eqn} {i : Nat} (hi : i < es.length) {P : Prop} (h : eqAt c z es i) : cdec (eqsFrom c z es i ∧ P) = cdec (eqsFrom c z es (i + 1) ∧ P) := cdec_congr (by rw [eqsFrom_step hi]; simp [h])
theorem toNat_pred {i : Int} (h : 0 < i) : (i - 1).toNat = i.toNat - 1 := by omega
def pairOk (es : List Eqn) (i j : Nat) : Prop := j ≠ i → piv (es.getD i eqD) ∉ (es.getD j eqD).1
theorem solv_inner (N : Nat) (c z : Int) (es : List Eqn) (hl : es.length < 1000000000) (hs : ∀ i, i < es.length → (es.getD i eqD).1.length < 1000000000) (hN : es.length < N) (K : spec_SolverOk_X10 → Rs) (i : Int) (h0 : 0 ≤ i) (hi : i < es.length) (hne : ∀ j, j < es.length → (es.getD j eqD).1 ≠ []) :
    spec_SolverOk_W13 N K N (0, i, c, z, es) = cond (cdec (∀ r, r < es.length → pairOk es i.toNat r)) (K (i + 1, c, z, es)) (some ([B false], [])) := by
  refine (fo5 (T := fun k => spec_SolverOk_T13 k K) (fun k i' c' z' es' => i' = i ∧ c' = c ∧ z' = z ∧ es' = es ∧ 0 ≤ k ∧ k ≤ es.length) (fun k _ _ _ _ => es.length - k.toNat) (fun k _ _ _ _ => cond (cdec (∀ r, k.toNat ≤ r → r < es.length → pairOk es i.toNat r)) (K (i + 1, c, z, es)) (some ([B false], []))) ?_ _ _ _ _ _ _ ⟨rfl, rfl, rfl, rfl, by omega, by omega⟩ (by omega)).trans ?_
  · rintro k i' c' z' es' L ⟨rfl, rfl, rfl, rfl, q0, q1⟩ hL
    unfold spec_SolverOk_T13
    simp only [Bool.cond_eq_ite, decide_eq_true_eq, bne_iff_ne, ne_eq]
    by_cases hk : k < es'.length
    · have nx := hL (k + 1) i' c' z' es' ⟨rfl, rfl, rfl, rfl, by omega, by omega⟩ (by omega)
      have step : ∀ (h : pairOk es' i'.toNat k.toNat), cdec (∀ r, (k + 1).toNat ≤ r → r < es'.length → pairOk es' i'.toNat r) = cdec (∀ r, k.toNat ≤ r → r < es'.length → pairOk es' i'.toNat r) := fun h => cdec_congr (by
        rw [toNat_succ q0]
        constructor
        · intro H r h1 h2
          rcases Nat.eq_or_lt_of_le h1 with rfl | h3
          · exact h
          · exact H r h3 h2
        · exact fun H r h1 h2 => H r (by omega) h2)
      rw [if_pos hk, w64i q0 (by omega)]
      by_cases hki : k = i'
      · rw [if_neg (not_not_intro hki), nx, step fun h => absurd (by rw [hki]) h, Bool.cond_eq_ite]
      · rw [if_pos hki, if_pos q0, if_pos hk, if_pos h0, if_pos hi, if_pos (ne_len (hne _ (by omega))), if_pos (hs _ (by omega))]
        by_cases hm : piv (es'.getD i'.toNat eqD) ∈ (es'.getD k.toNat eqD).1
        · rw [if_pos hm, cdec_f fun H => H k.toNat (Nat.le_refl _) (by omega) (by omega) hm]; rfl
        · rw [if_neg hm, nx, step fun _ => hm, Bool.cond_eq_ite]
    · rw [if_neg hk, w64i h0 (by omega), cdec_t fun r h1 h2 => by omega]; rfl
  · rw [Int.toNat_zero, cdec_congr (show (∀ r, 0 ≤ r → r < es.length → pairOk es i.toNat r) ↔ ∀ r, r < es.length → pairOk es i.toNat r from ⟨fun H r h => H r (Nat.zero_le _) h, fun H r _ h => H r h⟩)]
theorem solv_second (N : Nat) (c z : Int) (es : List Eqn) (hl : es.length < 1000000000) (hs : ∀ i, i < es.length → (es.getD i eqD).1.length < 1000000000) (hN : es.length < N) (hne : ∀ j, j < es.length → (es.getD j eqD).1 ≠ []) :
    spec_SolverOk_W10 N N (0, c, z, es) = some ([B (cdec (apart es))], []) := by
  refine (fix4 (T := fun k => spec_SolverOk_T10 (spec_SolverOk_W13 N k N)) (fun i c' z' es' => c' = c ∧ z' = z ∧ es' = es ∧ 0 ≤ i ∧ i ≤ es.length) (fun i _ _ _ => es.length - i.toNat) (fun i _ _ _ => ([B (cdec (∀ i' r, i.toNat ≤ i' → i' < es.length → r < es.length → pairOk es i' r))], [])) ?_ _ _ _ _ _ ⟨rfl, rfl, rfl, by omega, by omega⟩ (by omega)).trans ?_
  · rintro i c' z' es' K ⟨rfl, rfl, rfl, q0, q1⟩ hK
    unfold spec_SolverOk_T10
    simp only [Bool.cond_eq_ite, decide_eq_true_eq]
    by_cases hi : i < es'.length
    · rw [if_pos hi, solv_inner N c' z' es' hl hs hN K i q0 hi hne]
      have nx := hK (i + 1) c' z' es' ⟨rfl, rfl, rfl, by omega, by omega⟩ (by omega)
      by_cases hp : ∀ r, r < es'.length → pairOk es' i.toNat r
      · rw [cdec_t hp, cond_true, nx, cdec_congr (show (∀ i' r, (i + 1).toNat ≤ i' → i' < es'.length → r < es'.length → pairOk es' i' r) ↔ (∀ i' r, i.toNat ≤ i' → i' < es'.length → r < es'.length → pairOk es' i' r) from by
          rw [toNat_succ q0]
          constructor
          · intro H i' r h1 h2 h3
            rcases Nat.eq_or_lt_of_le h1 with rfl | h4
            · exact hp r h3
            · exact H i' r h4 h2 h3
          · exact fun H i' r h1 h2 h3 => H i' r (by omega) h2 h3)]
      · rw [cdec_f hp, cond_false, cdec_f fun H => hp fun r hr => H i.toNat r (Nat.le_refl _) (by omega) hr]
    · rw [if_neg hi, cdec_t fun i' r h1 h2 h3 => by omega]
  · rw [Int.toNat_zero, cdec_congr (show (∀ i' r, 0 ≤ i' → i' < es.length → r < es.length → pairOk es i' r) ↔ apart es from ⟨fun H i j h1 h2 h3 => H i j (Nat.zero_le _) h1 h2 h3, fun H i j _ h1 h2 h3 => H i j h1 h2 h3⟩)]
theorem K_spec_SolverOk : Sound1 Try.prog EKs F_spec_SolverOk.f S_spec_SolverOk := snd ok_spec_SolverOk [(F_spec_l1In.f, S_spec_l1In), (F_spec_RowOk.f, S_spec_RowOk), (F_spec_l3Has.f, S_spec_l3Has)] (tabF_cons K_spec_l1In (tabF_cons K_spec_RowOk (tabF_cons K_spec_l3Has (tabF_nil _ _)))) fun args sp h hp => by
  unfold S_spec_SolverOk at h
  split at h
  · rename_i c z es
    cases h
    obtain ⟨hl, hs⟩ := smE_of hp
    refine ⟨rfl, es.length + 1, (spec_SolverOk_run _ _ _ _).trans ?_⟩
    unfold spec_SolverOk_T
    simp only [Bool.cond_eq_ite, Bool.not_eq_true', inB_f]
    have hsv : solvB c z es = cdec (SolverP c z es) := bool_eq (by rw [solvB_iff, cdec_iff])
    rw [hsv]
    by_cases h1 : 1 ≤ c ∧ c ≤ 24
    rotate_left
    · rw [if_pos h1, cdec_f fun H => h1 H.1]
    rw [if_neg (not_not_intro h1)]
    by_cases h2 : 1 ≤ z ∧ z ≤ 16
    rotate_left
    · rw [if_pos h2, cdec_f fun H => h2 H.2.1]
    rw [if_neg (not_not_intro h2)]
    refine (fix4 (T := fun k => spec_SolverOk_T4 k (spec_SolverOk_W10 (es.length + 1) (es.length + 1))) (fun i c' z' es' => c' = c ∧ z' = z ∧ es' = es ∧ (0 ≤ i ∧ i ≤ es.length) ∧ ∀ j, j < i.toNat → eqAt c z es j) (fun i _ _ _ => es.length - i.toNat) (fun i _ _ _ => ([B (cdec (eqsFrom c z es i.toNat ∧ apart es))], [])) ?_ _ _ _ _ _ ⟨rfl, rfl, rfl, ⟨by omega, by omega⟩, fun j hj => absurd hj (Nat.not_lt_zero _)⟩ (by omega)).trans ?_
    · rintro i c' z' es' K ⟨rfl, rfl, rfl, ⟨q0, q1⟩, q2⟩ hK
      unfold spec_SolverOk_T4
      simp only [Bool.cond_eq_ite, decide_eq_true_eq, Bool.not_eq_true', decide_eq_false_iff_not, beq_iff_eq, bne_iff_ne, ne_eq]
      simp only [nil_len]
      by_cases hi : i < es'.length
      · have hlt : i.toNat < es'.length := by omega
        have good : eqAt c' z' es' i.toNat → K (i + 1, c', z', es') = some ([B (cdec (eqsFrom c' z' es' i.toNat ∧ apart es'))], []) := fun h => by
          rw [hK (i + 1) c' z' es' ⟨rfl, rfl, rfl, ⟨by omega, by omega⟩, fun j hj => by
            by_cases e : j < i.toNat
            · exact q2 j e
            · rw [show j = i.toNat by omega]; exact h⟩ (by omega), toNat_succ q0, eq_good hlt h]
        rw [if_pos hi, if_pos q0, if_pos hi, if_pos (hs _ hlt), w64i q0 (by omega)]
        by_cases c1 : RowP (es'.getD i.toNat eqD).1 c'
        rotate_left
        · rw [if_pos c1, eq_bad hlt fun h => c1 h.1]
        rw [if_neg (not_not_intro c1)]
        by_cases c2 : (es'.getD i.toNat eqD).1 = []
        · rw [if_pos c2, eq_bad hlt fun h => h.2.1 c2]
        rw [if_neg c2]
        by_cases c3 : ((es'.getD i.toNat eqD).2.size : Int) = z'
        rotate_left
        · rw [if_pos c3, eq_bad hlt fun h => c3 h.2.2.1]
        rw [if_neg (not_not_intro c3)]
        by_cases c4 : i > 0
        · rw [if_pos c4, w64 (x := i - 1) (by omega) (by omega), if_pos (by omega), if_pos (by omega), toNat_pred c4, if_pos (ne_len (q2 (i.toNat - 1) (by omega)).2.1), if_pos (ne_len c2)]
          by_cases c5 : piv (es'.getD (i.toNat - 1) eqD) ≥ piv (es'.getD i.toNat eqD)
          · rw [if_pos c5, eq_bad hlt fun h => by have := h.2.2.2 (by omega); omega]
          · rw [if_neg c5, good ⟨c1, c2, c3, fun _ => by omega⟩]
        · rw [if_neg c4, good ⟨c1, c2, c3, fun h => by omega⟩]
      · rw [if_neg hi]
        have hall : ∀ j, j < es'.length → eqAt c' z' es' j := fun j hj => q2 j (by omega)
        rw [solv_second _ c' z' es' hl hs (by omega) fun j hj => (hall j hj).2.1]
        have he : eqsFrom c' z' es' i.toNat := eqsFrom_end (by omega)
        rw [cdec_congr (show apart es' ↔ eqsFrom c' z' es' i.toNat ∧ apart es' from ⟨fun h => ⟨he, h⟩, fun h => h.2⟩)]
    · rw [Int.toNat_zero, cdec_congr (show (eqsFrom c z es 0 ∧ apart es) ↔ SolverP c z es from ⟨fun h => ⟨h1, h2, h.1, h.2⟩, fun h => ⟨h.2.2.1, h.2.2.2⟩⟩)]
  · cases h
end Go.Proofs.Ytbolcmcjniiieaa.V
namespace Go.Proofs.Ytbolcmcjniiieaa.V
open Go Vx Vx.N
/-! ### Solvers that are ok: the program's way -/
theorem piv_cons {e : Eqn} (h : e.1 ≠ []) : e.1 = piv e :: e.1.drop 1 := by
  cases hl : e.1 with
  | nil => exact absurd hl h
  | cons x l => show _ = e.1.getD 0 0 :: _; rw [hl]; rfl
theorem piv_mono {c z : Int} {es : List Eqn} (h : eqsFrom c z es 0) (i d : Nat) : i + d + 1 < es.length → piv (es.getD i eqD) < piv (es.getD (i + d + 1) eqD) := by
  induction d with
  | zero => exact fun hd => (h (i + 1) (Nat.zero_le _) hd).2.2.2 (by omega)
  | succ d ih =>
    intro hd
    have h1 := ih (by omega)
    have h2 := (h (i + d + 2) (Nat.zero_le _) (by omega)).2.2.2 (by omega)
    have e1 : i + (d + 1) + 1 = i + d + 2 := by omega
    rw [e1]
    have e2 : i + d + 2 - 1 = i + d + 1 := by omega
    rw [e2] at h2
    omega
theorem piv_ne {c z : Int} {es : List Eqn} (h : eqsFrom c z es 0) {i j : Nat} (hi : i < es.length) (hj : j < es.length) (hij : i ≠ j) : piv (es.getD i eqD) ≠ piv (es.getD j eqD) := by
  rcases Nat.lt_or_ge i j with h1 | h1
  · have := piv_mono h i (j - i - 1) (by omega)
    rw [show i + (j - i - 1) + 1 = j by omega] at this
    omega
  · have := piv_mono h j (i - j - 1) (by omega)
    rw [show j + (i - j - 1) + 1 = i by omega] at this
    omega
theorem and_zero (a b : List Int) (ha : ∀ x ∈ a, 0 ≤ x) (hb : ∀ x ∈ b, 0 ≤ x) : maskN a &&& maskN b = 0 ↔ ∀ y, y ∈ a → y ∉ b := by
  constructor
  · intro h y h1 h2
    have h3 : (maskN a &&& maskN b).testBit y.toNat = true := by
      rw [Nat.testBit_and, maskN_bit a ha, maskN_bit b hb, Int.toNat_of_nonneg (ha y h1)]
      simp [h1, h2]
    rw [h] at h3
    simp at h3
  · intro h
    refine Nat.eq_of_testBit_eq fun j => ?_
    rw [Nat.testBit_and, maskN_bit a ha, maskN_bit b hb, Nat.zero_testBit]
    by_cases h1 : (j : Int) ∈ a
    · simp [h1, h _ h1]
    · simp [h1]
theorem piv_in {c z : Int} {es : List Eqn} {j : Nat} (h : eqAt c z es j) : 0 ≤ piv (es.getD j eqD) ∧ piv (es.getD j eqD) < c := h.1.2.2.2 (piv (es.getD j eqD)) (by
  have := piv_cons h.2.1
  rw [this]
  exact List.mem_cons_self)
theorem tail_in {c z : Int} {es : List Eqn} {j : Nat} (h : eqAt c z es j) : ∀ x ∈ (es.getD j eqD).1.drop 1, (0 ≤ x ∧ x < c) ∧ piv (es.getD j eqD) < x := by
  intro x hx
  have h1 := h.1.2.2
  have e := piv_cons h.2.1
  rw [e] at h1
  exact ⟨h1.2 x (List.mem_cons_of_mem _ hx), (List.pairwise_cons.1 h1.1).1 x hx⟩
theorem piv_mem (es : List Eqn) (p : Int) : p ∈ es.map piv ↔ ∃ i, i < es.length ∧ piv (es.getD i eqD) = p := by
  rw [List.mem_map]
  constructor
  · rintro ⟨e, he, rfl⟩
    obtain ⟨i, hi, rfl⟩ := List.getElem_of_mem he
    exact ⟨i, hi, by rw [getD_lt hi]⟩
  · rintro ⟨i, hi, rfl⟩
    exact ⟨_, getE_mem hi, rfl⟩
theorem apart_iff {c z : Int} {es : List Eqn} (h : eqsFrom c z es 0) : (∀ j, j < es.length → maskN ((es.getD j eqD).1.drop 1) &&& maskN (es.map piv) = 0) ↔ apart es := by
  have hp : ∀ x ∈ es.map piv, 0 ≤ x := fun x hx => by
    obtain ⟨i, hi, rfl⟩ := (piv_mem es x).1 hx
    exact (piv_in (h i (Nat.zero_le _) hi)).1
  constructor
  · intro H i j hi hj hij hm
    have ej := h j (Nat.zero_le _) hj
    rw [piv_cons ej.2.1] at hm
    rcases List.mem_cons.1 hm with hm | hm
    · exact piv_ne h hi hj (Ne.symm hij) hm
    · exact (and_zero _ _ (fun x hx => (tail_in ej x hx).1.1) hp).1 (H j hj) _ hm ((piv_mem es _).2 ⟨i, hi, rfl⟩)
  · intro H j hj
    have ej := h j (Nat.zero_le _) hj
    rw [and_zero _ _ (fun x hx => (tail_in ej x hx).1.1) hp]
    intro y hy hy2
    obtain ⟨i, hi, rfl⟩ := (piv_mem es y).1 hy2
    by_cases hij : j = i
    · subst hij
      have := (tail_in ej _ hy).2
      omega
    · refine H i j hi hj hij ?_
      rw [piv_cons ej.2.1]
      exact List.mem_cons_of_mem _ hy
theorem isolv_second (N : Nat) (c z : Int) (es : List Eqn) (hl : es.length < 1000000000) (hs : ∀ i, i < es.length → (es.getD i eqD).1.length < 1000000000) (hN : es.length < N) (hok : eqsFrom c z es 0) (hc : c ≤ 24) (P : Nat) (hP : P < 2 ^ 32) :
    impl_SolverOk_W12 N N (0, es.length, es, (P : Int)) = some ([B (cdec (∀ j, j < es.length → maskN ((es.getD j eqD).1.drop 1) &&& P = 0))], []) := by
  refine (fix4 (T := fun k => impl_SolverOk_T12 k) (fun i n es' p => n = es.length ∧ es' = es ∧ p = (P : Int) ∧ 0 ≤ i ∧ i ≤ es.length) (fun i _ _ _ => es.length - i.toNat) (fun i _ _ _ => ([B (cdec (∀ j, i.toNat ≤ j → j < es.length → maskN ((es.getD j eqD).1.drop 1) &&& P = 0))], [])) ?_ _ _ _ _ _ ⟨rfl, rfl, rfl, by omega, by omega⟩ (by omega)).trans ?_
  · rintro i n es' p K ⟨rfl, rfl, rfl, q0, q1⟩ hK
    unfold impl_SolverOk_T12
    simp only [Bool.cond_eq_ite, decide_eq_true_eq, Bool.and_eq_true, List.all_eq_true, bne_iff_ne, ne_eq]
    by_cases hi : i < es'.length
    · have hlt : i.toNat < es'.length := by omega
      have ej := hok i.toNat (Nat.zero_le _) hlt
      have ht := tail_in ej
      have hlen := hs _ hlt
      have hdl : List.drop 1 (List.take (Int.toNat ((es'.getD i.toNat eqD).1.length : Int)) (es'.getD i.toNat eqD).1) = (es'.getD i.toNat eqD).1.drop 1 := by
        rw [Int.toNat_natCast, List.take_of_length_le (Nat.le_refl _)]
      rw [hdl]
      have hm := maskN_lt ((es'.getD i.toNat eqD).1.drop 1) 24 (fun x hx => ⟨(ht x hx).1.1, by have := (ht x hx).1.2; omega⟩)
      rw [if_pos hi, if_pos q0, if_pos hi, if_pos (by have := ne_len ej.2.1; omega), if_pos (Int.le_refl _), if_pos ⟨by rw [List.length_drop]; omega, fun x hx => ⟨(ht x hx).1.1, by have := (ht x hx).1.2; omega⟩⟩, and32 _ P (by omega) hP, w64i q0 (by omega)]
      by_cases h : maskN ((es'.getD i.toNat eqD).1.drop 1) &&& P = 0
      · rw [if_neg (by rw [h]; simp), hK (i + 1) _ _ _ ⟨rfl, rfl, rfl, by omega, by omega⟩ (by omega), toNat_succ q0]
        refine congrArg (fun b => some ([B b], [])) (cdec_congr ⟨fun H j h1 h2 => ?_, fun H j h1 h2 => H j (by omega) h2⟩)
        rcases Nat.eq_or_lt_of_le h1 with rfl | h3
        · exact h
        · exact H j h3 h2
      · rw [if_pos (by omega), cdec_f fun H => h (H _ (Nat.le_refl _) hlt)]
    · rw [if_neg hi, cdec_t fun j h1 h2 => by omega]
  · rw [Int.toNat_zero, cdec_congr (show (∀ j, 0 ≤ j → j < es.length → maskN ((es.getD j eqD).1.drop 1) &&& P = 0) ↔ ∀ j, j < es.length → maskN ((es.getD j eqD).1.drop 1) &&& P = 0 from ⟨fun H j h => H j (Nat.zero_le _) h, fun H j _ h => H j h⟩)]
theorem K_impl_SolverOk : Sound1 Try.prog EKs F_impl_SolverOk.f S_impl_SolverOk := snd ok_impl_SolverOk [(F_impl_within.f, S_impl_within), (F_impl_RowOk.f, S_impl_RowOk), (F_impl_mask.f, S_impl_mask)] (tabF_cons K_impl_within (tabF_cons K_impl_RowOk (tabF_cons K_impl_mask (tabF_nil _ _)))) fun args sp h hp => by
  unfold S_impl_SolverOk S_spec_SolverOk at h
  split at h
  · rename_i c z es
    cases h
    obtain ⟨hl, hs⟩ := smE_of hp
    refine ⟨rfl, es.length + 1, (impl_SolverOk_run _ _ _ _).trans ?_⟩
    unfold impl_SolverOk_T
    simp only [Bool.cond_eq_ite, Bool.not_eq_true', inB_f]
    have hsv : solvB c z es = cdec (SolverP c z es) := bool_eq (by rw [solvB_iff, cdec_iff])
    rw [hsv]
    by_cases h1 : 1 ≤ c ∧ c ≤ 24
    rotate_left
    · rw [if_pos h1, cdec_f fun H => h1 H.1]
    rw [if_neg (not_not_intro h1)]
    by_cases h2 : 1 ≤ z ∧ z ≤ 16
    rotate_left
    · rw [if_pos h2, cdec_f fun H => h2 H.2.1]
    rw [if_neg (not_not_intro h2)]
    refine (fix7 (T := fun k => impl_SolverOk_T5 k (impl_SolverOk_W12 (es.length + 1) (es.length + 1))) (fun i n es1 p c' z' es' => (n = es.length ∧ es1 = es ∧ p = (maskN ((es.take i.toNat).map piv) : Nat)) ∧ c' = c ∧ z' = z ∧ es' = es ∧ (0 ≤ i ∧ i ≤ es.length) ∧ ∀ j, j < i.toNat → eqAt c z es j) (fun i _ _ _ _ _ _ => es.length - i.toNat) (fun i _ _ _ _ _ _ => ([B (cdec (eqsFrom c z es i.toNat ∧ apart es))], [])) ?_ _ _ _ _ _ _ _ _ ⟨⟨rfl, rfl, rfl⟩, rfl, rfl, rfl, ⟨by omega, by omega⟩, fun j hj => absurd hj (Nat.not_lt_zero _)⟩ (by omega)).trans ?_
    · rintro i n es1 p c' z' es' K ⟨⟨rfl, rfl, rfl⟩, rfl, rfl, rfl, ⟨q0, q1⟩, q2⟩ hK
      unfold impl_SolverOk_T5
      simp only [Bool.cond_eq_ite, decide_eq_true_eq, Bool.not_eq_true', decide_eq_false_iff_not, beq_iff_eq, bne_iff_ne, ne_eq]
      simp only [nil_len]
      by_cases hi : i < es'.length
      · have hlt : i.toNat < es'.length := by omega
        have hmk := maskN_lt ((es'.take i.toNat).map piv) 24 (fun x hx => by
          obtain ⟨e, he, rfl⟩ := List.mem_map.1 hx
          obtain ⟨j, hj, rfl⟩ := List.getElem_of_mem he
          have hj' : j < i.toNat := by rw [List.length_take] at hj; omega
          have := piv_in (q2 j hj')
          rw [getD_lt (by omega)] at this
          rw [List.getElem_take]
          omega)
        have good : eqAt c' z' es' i.toNat → (if (0 : Int) < ((es'.getD i.toNat eqD).1.length : Int) then if 0 ≤ piv (es'.getD i.toNat eqD) then K (i + 1, es'.length, es', IntKind.wrap .u32 ↑(BitVec.toNat (BitVec.ofInt (IntKind.bits .u32) ((maskN ((es'.take i.toNat).map piv) : Nat) : Int) ||| BitVec.ofInt (IntKind.bits .u32) (IntKind.wrap .u32 (1 * 2 ^ min (piv (es'.getD i.toNat eqD)).toNat (IntKind.bits .u32))))), c', z', es') else none else none) = some ([B (cdec (eqsFrom c' z' es' i.toNat ∧ apart es'))], []) := fun h => by
          have hpi := piv_in h
          have e1 : (es'.take (i.toNat + 1)).map piv = (es'.take i.toNat).map piv ++ [piv (es'.getD i.toNat eqD)] := by
            rw [List.take_succ_eq_append_getElem hlt, List.map_append, List.map_cons, List.map_nil, getD_lt hlt]
          have e2 : maskN ((es'.take (i.toNat + 1)).map piv) = maskN ((es'.take i.toNat).map piv) ||| 2 ^ (piv (es'.getD i.toNat eqD)).toNat := by
            rw [e1]
            unfold maskN
            rw [List.foldl_append]
            rfl
          rw [if_pos (ne_len h.2.1), if_pos hpi.1, shl32 _ hpi.1 (by omega), or32 _ _ (by omega) (Nat.pow_lt_pow_right (by decide) (by omega)), ← e2]
          rw [hK (i + 1) _ es' _ c' z' es' ⟨⟨rfl, rfl, by rw [toNat_succ q0]⟩, rfl, rfl, rfl, ⟨by omega, by omega⟩, fun j hj => by
            by_cases e : j < i.toNat
            · exact q2 j e
            · rw [show j = i.toNat by omega]; exact h⟩ (by omega), toNat_succ q0, eq_good hlt h]
        rw [if_pos hi, if_pos q0, if_pos hi, w64i q0 (by omega)]
        by_cases c2 : (es'.getD i.toNat eqD).1 = []
        · rw [if_pos c2, eq_bad hlt fun h => h.2.1 c2]
        rw [if_neg c2, if_pos (hs _ hlt)]
        by_cases c1 : RowP (es'.getD i.toNat eqD).1 c'
        rotate_left
        · rw [if_pos c1, eq_bad hlt fun h => c1 h.1]
        rw [if_neg (not_not_intro c1)]
        by_cases c3 : ((es'.getD i.toNat eqD).2.size : Int) = z'
        rotate_left
        · rw [if_pos c3, eq_bad hlt fun h => c3 h.2.2.1]
        rw [if_neg (not_not_intro c3)]
        by_cases c4 : i > 0
        · rw [if_pos c4, w64 (x := i - 1) (by omega) (by omega), if_pos (by omega), if_pos (by omega), toNat_pred c4, if_pos (ne_len (q2 (i.toNat - 1) (by omega)).2.1), if_pos (ne_len c2)]
          by_cases c5 : piv (es'.getD (i.toNat - 1) eqD) ≥ piv (es'.getD i.toNat eqD)
          · rw [if_pos c5, eq_bad hlt fun h => by have := h.2.2.2 (by omega); omega]
          · rw [if_neg c5]
            exact good ⟨c1, c2, c3, fun _ => by omega⟩
        · rw [if_neg c4]
          exact good ⟨c1, c2, c3, fun h => by omega⟩
      · rw [if_neg hi]
        have hok : eqsFrom c' z' es' 0 := fun j _ hj => q2 j (by omega)
        rw [List.take_of_length_le (by omega)]
        have hP := maskN_lt (es'.map piv) 24 (fun x hx => by
          obtain ⟨i, hi, rfl⟩ := (piv_mem es' x).1 hx
          have := piv_in (hok i (Nat.zero_le _) hi)
          omega)
        rw [isolv_second _ c' z' es' hl hs (by omega) hok h1.2 _ (by omega)]
        have he : eqsFrom c' z' es' i.toNat := eqsFrom_end (by omega)
        rw [cdec_congr (apart_iff hok), cdec_congr (show apart es' ↔ eqsFrom c' z' es' i.toNat ∧ apart es' from ⟨fun h => ⟨he, h⟩, fun h => h.2⟩)]
    · rw [Int.toNat_zero, cdec_congr (show (eqsFrom c z es 0 ∧ apart es) ↔ SolverP c z es from ⟨fun h => ⟨h1, h2, h.1, h.2⟩, fun h => ⟨h.2.2.1, h.2.2.2⟩⟩)]
  · cases h
end Go.Proofs.Ytbolcmcjniiieaa.V
namespace Go.Proofs.Ytbolcmcjniiieaa.V
open Go Vx Vx.N
/-! ### Equations made smaller -/
theorem xor_rows {a b : List Int} {c : Int} (ha : RowP a c) (hb : RowP b c) : RowP (xorL a b) c := ⟨ha.1, ha.2.1, (xorL_mem a b ha.2.2.1 hb.2.2.1).2, xorL_in a b ha.2.2.1 hb.2.2.1 c ha.2.2.2 hb.2.2.2⟩
theorem rowP_short {a : List Int} {c : Int} (h : RowP a c) : a.length ≤ 24 := asc_length a h.2.2.1 24 (fun x hx => by have := h.2.2.2 x hx; have := h.2.1; omega)
theorem rowP_24 {a : List Int} {c : Int} (h : RowP a c) : ∀ x ∈ a, 0 ≤ x ∧ x < 24 := fun x hx => by have := h.2.2.2 x hx; have := h.2.1; omega
theorem rowP_32 {a : List Int} {c : Int} (h : RowP a c) : ∀ x ∈ a, 0 ≤ x ∧ x < 32 := fun x hx => by have := h.2.2.2 x hx; have := h.2.1; omega
theorem mask_24 {a : List Int} {c : Int} (h : RowP a c) : maskN a < 2 ^ 24 := maskN_lt a 24 (rowP_24 h)
theorem mask_xorL {a b : List Int} {c : Int} (ha : RowP a c) (hb : RowP b c) : maskN (xorL a b) = maskN a ^^^ maskN b := by
  rw [← xorL_rowN a b ha.2.2.1 hb.2.2.1 (rowP_24 ha) (rowP_24 hb)]
  exact maskN_rowN _ (Nat.xor_lt_two_pow (mask_24 ha) (mask_24 hb))
theorem mask_zero {a : List Int} {c : Int} (h : RowP a c) : maskN a = 0 ↔ a = [] := by
  constructor
  · intro h0
    have h1 := rowN_maskN a h.2.2.1 (rowP_24 h)
    rw [h0] at h1
    rw [← h1]
    rfl
  · rintro rfl
    rfl
theorem solver_at {c z : Int} {es : List Eqn} (h : SolverP c z es) {i : Nat} (hi : i < es.length) : eqAt c z es i := h.2.2.1 i (Nat.zero_le _) hi
theorem asc_piv {c z : Int} {es : List Eqn} (h : SolverP c z es) : (es.map piv).Pairwise (· < ·) := by
  rw [List.pairwise_iff_getElem]
  intro i j hi hj hij
  rw [List.length_map] at hi hj
  have := piv_mono h.2.2.1 i (j - i - 1) (by omega)
  rw [show i + (j - i - 1) + 1 = j by omega, getD_lt hi, getD_lt hj] at this
  simpa using this
theorem solver_len {c z : Int} {es : List Eqn} (h : SolverP c z es) : es.length ≤ 24 := by
  have := asc_length (es.map piv) (asc_piv h) 24 (fun x hx => by
    obtain ⟨i, hi, rfl⟩ := (piv_mem es x).1 hx
    have := piv_in (solver_at h hi)
    have := h.1.2
    omega)
  simpa using this
theorem solver_sm {c z : Int} {es : List Eqn} (h : SolverP c z es) : smE es = true := by
  have hl := solver_len h
  simp only [smE, Bool.and_eq_true, decide_eq_true_eq, List.all_eq_true]
  refine ⟨by omega, fun e he => ?_⟩
  obtain ⟨i, hi, rfl⟩ := List.getElem_of_mem he
  have := rowP_short (solver_at h hi).1
  rw [getD_lt hi] at this
  omega
theorem redE_cons (e : Eqn) (es : List Eqn) (r : List Int) (t : ByteArray) : redE (e :: es) r t = if piv e ∈ r then redE es (xorL r e.1) (xorB t e.2) else redE es r t := by
  rw [redE]
  by_cases h : piv e ∈ r
  · rw [if_pos h, decide_eq_true h]
  · rw [if_neg h, decide_eq_false h]
theorem redE_row {c z : Int} {es : List Eqn} (h : SolverP c z es) (d : Nat) : ∀ (i : Nat) (r : List Int) (t : ByteArray), es.length - i = d → RowP r c → (t.size : Int) = z → RowP (redE (es.drop i) r t).1 c ∧ ((redE (es.drop i) r t).2.size : Int) = z := by
  induction d with
  | zero =>
    intro i r t hd hr ht
    rw [List.drop_eq_nil_of_le (by omega)]
    exact ⟨hr, ht⟩
  | succ d ih =>
    intro i r t hd hr ht
    have hlt : i < es.length := by omega
    have e1 := solver_at h hlt
    rw [eqAt, getD_lt hlt] at e1
    rw [List.drop_eq_getElem_cons hlt, redE_cons]
    split
    · exact ih (i + 1) _ _ (by omega) (xor_rows hr e1.1) (by rw [xorB_size _ _ (by have := e1.2.2.1; omega)]; exact ht)
    · exact ih (i + 1) _ _ (by omega) hr ht
theorem redE_ok {c z : Int} {es : List Eqn} (h : SolverP c z es) {r : List Int} {t : ByteArray} (hr : RowP r c) (ht : (t.size : Int) = z) : RowP (redE es r t).1 c ∧ ((redE es r t).2.size : Int) = z := by
  have := redE_row h es.length 0 r t (by omega) hr ht
  rwa [List.drop_zero] at this
theorem redE_at {es : List Eqn} {i : Nat} (hi : i < es.length) (r : List Int) (t : ByteArray) : redE (es.drop i) r t = if piv (es.getD i eqD) ∈ r then redE (es.drop (i + 1)) (xorL r (es.getD i eqD).1) (xorB t (es.getD i eqD).2) else redE (es.drop (i + 1)) r t := by
  rw [List.drop_eq_getElem_cons hi, redE_cons, getD_lt hi]
theorem less_in (N m : Nat) (c z : Int) (es : List Eqn) (hS : SolverP c z es) : ∀ (i : Int) (b2 : ByteArray) (t : ByteArray) (r1 r : List Int), 0 ≤ i → i ≤ es.length → es.length - i.toNat < m → RowP r c → (t.size : Int) = z →
    spec_l3Less_W2a N m (i, b2, t, c, z, es, r1, r) = some ([Eq1 (redE (es.drop i.toNat) r t).1 (redE (es.drop i.toNat) r t).2], []) := by
  intro i b2 t r1 r h0 h1 hm hr ht
  refine fix8 (T := fun k => spec_l3Less_T2a k) (fun i _ t c' z' es' _ r => c' = c ∧ z' = z ∧ es' = es ∧ (0 ≤ i ∧ i ≤ es.length) ∧ RowP r c ∧ (t.size : Int) = z) (fun i _ _ _ _ _ _ _ => es.length - i.toNat) (fun i _ t _ _ _ _ r => ([Eq1 (redE (es.drop i.toNat) r t).1 (redE (es.drop i.toNat) r t).2], [])) ?_ _ _ _ _ _ _ _ _ _ ⟨rfl, rfl, rfl, ⟨h0, h1⟩, hr, ht⟩ hm
  rintro i b2 t c' z' es' r1 r K ⟨rfl, rfl, rfl, ⟨q0, q1⟩, hr, ht⟩ hK
  unfold spec_l3Less_T2a
  simp only [Bool.cond_eq_ite, decide_eq_true_eq]
  have hl := solver_len hS
  have s1 := rowP_short hr
  by_cases hi : i < es'.length
  · have hlt : i.toNat < es'.length := by omega
    obtain ⟨e1, e2, e3, _⟩ := solver_at hS hlt
    have s2 := rowP_short e1
    rw [if_pos hi, if_pos q0, if_pos hi, if_pos (ne_len e2), if_pos (by omega), redE_at hlt, w64i q0 (by omega)]
    by_cases hp : piv (es'.getD i.toNat eqD) ∈ r
    · rw [if_pos hp, if_pos hp, if_pos q0, if_pos hi, if_pos (by omega), if_pos q0, if_pos hi, if_pos ⟨by omega, by have := hS.2.1; omega⟩]
      rw [hK _ _ _ _ _ _ _ _ ⟨rfl, rfl, rfl, ⟨by omega, by omega⟩, xor_rows hr e1, by rw [xorB_size _ _ (by omega)]; exact ht⟩ (by omega), toNat_succ q0]
    · rw [if_neg hp, if_neg hp, hK _ _ _ _ _ _ _ _ ⟨rfl, rfl, rfl, ⟨by omega, by omega⟩, hr, ht⟩ (by omega), toNat_succ q0]
  · rw [if_neg hi, List.drop_eq_nil_of_le (by omega)]; rfl
theorem less_out (N : Nat) (c z : Int) (es : List Eqn) (hS : SolverP c z es) : ∀ (m : Nat) (i : Int) (b2 : ByteArray) (r : List Int) (t : ByteArray) (r0 : List Int), 0 ≤ i → i ≤ es.length → es.length - i.toNat < m → RowP r c → (t.size : Int) = z →
    spec_l3Less_W2 N m (i, b2, r, t, c, z, es, r0) = some ([Eq1 (redE (es.drop i.toNat) r t).1 (redE (es.drop i.toNat) r t).2], []) := by
  intro m
  induction m with
  | zero => intro i b2 r t r0 h0 h1 hm; omega
  | succ m ih =>
    intro i b2 r t r0 q0 q1 hm hr ht
    show spec_l3Less_T2 (spec_l3Less_W2a N m) (spec_l3Less_W2 N m) (i, b2, r, t, c, z, es, r0) = _
    unfold spec_l3Less_T2
    simp only [Bool.cond_eq_ite, decide_eq_true_eq]
    have hl := solver_len hS
    have s1 := rowP_short hr
    by_cases hi : i < es.length
    · have hlt : i.toNat < es.length := by omega
      obtain ⟨e1, e2, e3, _⟩ := solver_at hS hlt
      have s2 := rowP_short e1
      rw [if_pos hi, if_pos q0, if_pos hi, if_pos (ne_len e2), if_pos (by omega), redE_at hlt, w64i q0 (by omega)]
      by_cases hp : piv (es.getD i.toNat eqD) ∈ r
      · rw [if_pos hp, if_pos hp, if_pos q0, if_pos hi, if_pos (by omega), if_pos q0, if_pos hi, if_pos ⟨by omega, by have := hS.2.1; omega⟩]
        rw [less_in N m c z es hS _ _ _ _ _ (by omega) (by omega) (by omega) (xor_rows hr e1) (by rw [xorB_size _ _ (by omega)]; exact ht), toNat_succ q0]
      · rw [if_neg hp, if_neg hp, ih _ _ _ _ _ (by omega) (by omega) (by omega) hr ht, toNat_succ q0]
    · rw [if_neg hi, List.drop_eq_nil_of_le (by omega)]; rfl
theorem K_spec_l3Less : Sound1 Try.prog EKs F_spec_l3Less.f S_spec_l3Less := snd ok_spec_l3Less [(F_spec_l3Has.f, S_spec_l3Has), (F_spec_l2Xor.f, S_spec_l2Xor), (F_spec_l2Block.f, S_spec_l2Block)] (tabF_cons K_spec_l3Has (tabF_cons K_spec_l2Xor (tabF_cons K_spec_l2Block (tabF_nil _ _)))) fun args sp h hp => by
  unfold S_spec_l3Less at h
  split at h
  · rename_i c z es r t
    cases h
    simp only [Bool.and_eq_true, solvB_iff, decide_eq_true_eq] at hp
    obtain ⟨hS, hr, ht⟩ := hp
    refine ⟨rfl, es.length + 1, (spec_l3Less_run _ _ _ _ _ _).trans ?_⟩
    exact less_out _ c z es hS _ 0 _ r t _ (by omega) (by omega) (by omega) hr ht
  · cases h
theorem K_spec_l3Copy : Sound1 Try.prog EKs F_spec_l3Copy.f S_spec_l3Copy := snd ok_spec_l3Copy [] (tabF_nil _ _) fun args sp h hp => by
  unfold S_spec_l3Copy at h
  split at h
  · rename_i c z es
    cases h
    obtain ⟨hl, hs⟩ := smE_of hp
    refine ⟨rfl, es.length + 1, (spec_l3Copy_run _ _ _ _).trans ?_⟩
    refine fix10 (T := fun k => spec_l3Copy_T3 k) (fun i c1 z1 _ _ _ _ es' r _ => c1 = c ∧ z1 = z ∧ es' = es ∧ (0 ≤ i ∧ i ≤ es.length) ∧ r = es.take i.toNat) (fun i _ _ _ _ _ _ _ _ _ => es.length - i.toNat) (fun _ _ _ _ _ _ _ _ _ _ => ([So c z es], [])) ?_ _ _ _ _ _ _ _ _ _ _ _ ⟨rfl, rfl, rfl, ⟨by omega, by omega⟩, rfl⟩ (by omega)
    rintro i c1 z1 a1 a2 a3 a4 es' r r0 K ⟨rfl, rfl, rfl, ⟨q0, q1⟩, rfl⟩ hK
    unfold spec_l3Copy_T3
    simp only [Bool.cond_eq_ite, decide_eq_true_eq]
    by_cases hi : i < es'.length
    · have hlt : i.toNat < es'.length := by omega
      have := hs _ hlt
      have ht : (es'.take i.toNat).length ≤ i.toNat := by rw [List.length_take]; omega
      rw [if_pos hi, if_pos q0, if_pos hi, if_pos (by omega), if_pos q0, if_pos hi, if_pos (by omega), w64i q0 (by omega)]
      refine hK _ _ _ _ _ _ _ _ _ _ ⟨rfl, rfl, rfl, ⟨by omega, by omega⟩, ?_⟩ (by omega)
      rw [toNat_succ q0, List.take_succ_eq_append_getElem hlt, getD_lt hlt]; rfl
    · rw [if_neg hi, List.take_of_length_le (by omega)]
  · cases h
end Go.Proofs.Ytbolcmcjniiieaa.V
