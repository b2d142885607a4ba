/- What functions come to, and that they do so; conditions: those that each theorem states. -/
import Derived.Test.YtbgheffgkncpgaaDoorDhh1G
set_option linter.unusedVariables false
set_option linter.unusedSimpArgs false
namespace Go.Proofs.YtbgheffgkncpgaaDoor.V
open Go Vx Vx.N
/-! ### SHA-256: what lies beside the rounds -/
theorem K_spec_l1Turn : Sound1 Tryd.prog EKs F_spec_l1Turn.f S_spec_l1Turn := snd ok_spec_l1Turn [] (tabF_nil _ _) fun args sp h hp => by
  unfold S_spec_l1Turn at h
  split at h
  · rename_i x n
    cases h
    obtain ⟨h1, h2⟩ := of_decide_eq_true hp
    refine ⟨rfl, 0, (spec_l1Turn_run _ _ _).trans ?_⟩
    unfold spec_l1Turn_T
    rw [decide_eq_true h1, decide_eq_true (show 0 ≤ IntKind.wrap .i64 (32 - n) by rw [w64 (by omega) (by omega)]; omega)]; rfl
  · cases h
theorem K_impl_rolled : Sound1 Tryd.prog EKs F_impl_rolled.f S_impl_rolled := snd ok_impl_rolled [] (tabF_nil _ _) fun args sp h hp => by
  unfold S_impl_rolled S_spec_l1Turn at h
  split at h
  · rename_i x n
    cases h
    obtain ⟨h1, h2⟩ := of_decide_eq_true hp
    refine ⟨rfl, 0, (impl_rolled_run _ _ _).trans ?_⟩
    unfold impl_rolled_T
    rw [decide_eq_true h1, decide_eq_true (show 0 ≤ IntKind.wrap .i64 (32 - n) by rw [w64 (by omega) (by omega)]; omega)]; rfl
  · cases h
theorem K_spec_l1Consts : Sound1 Tryd.prog EKs F_spec_l1Consts.f S_spec_l1Consts := snd ok_spec_l1Consts [] (tabF_nil _ _) fun args sp h hp => by
  unfold S_spec_l1Consts at h
  split at h
  · cases h
    exact ⟨rfl, 0, (spec_l1Consts_run _).trans rfl⟩
  · cases h
/-! in hexadecimal -/
theorem bytesL_len (s : ByteArray) : (bytesL s).length = s.size := by simp [bytesL]
theorem bytesL_at (s : ByteArray) {i : Nat} (h : i < s.size) : (bytesL s)[i]'(by rw [bytesL_len]; exact h) = bt s i := by
  have hd : i < s.data.toList.length := by simpa using h
  unfold bytesL bt
  rw [List.getElem_map, List.getD_eq_getElem?_getD, Int.toNat_natCast, List.getElem?_eq_getElem hd]
  rfl
theorem bt_in (s : ByteArray) (i : Int) : 0 ≤ bt s i ∧ bt s i < 256 := by
  unfold bt
  have := (s.data.toList.getD i.toNat 0).toNat_lt
  omega
theorem w8 {x : Int} (h0 : 0 ≤ x) (h1 : x < 256) : IntKind.wrap .u8 x = x := by
  rw [show IntKind.wrap .u8 x = x % 256 from rfl]; omega
theorem hexL_at (s : ByteArray) {i : Nat} (h : i < s.size) : hexL ((bytesL s).take (i + 1)) = hexL ((bytesL s).take i) ++ [hexC (IntKind.wrap .u8 (Int.tdiv (bt s i) 16)), hexC (Int.tmod (bt s i) 16)] := by
  rw [List.take_succ_eq_append_getElem (by rw [bytesL_len]; exact h), bytesL_at s h]
  simp [hexL]
theorem hex_fit (s : ByteArray) (i : Int) : IntKind.wrap .u8 (Int.tdiv (bt s i) 16) < 16 ∧ Int.tmod (bt s i) 16 < 16 := by
  obtain ⟨h0, h1⟩ := bt_in s i
  have e1 : Int.tdiv (bt s i) 16 = bt s i / 16 := Int.tdiv_eq_ediv_of_nonneg h0
  have e2 : Int.tmod (bt s i) 16 = bt s i % 16 := Int.tmod_eq_emod_of_nonneg h0
  rw [e1, e2, w8 (by omega) (by omega)]
  omega
theorem hex16 : (((⟨#[48, 49, 50, 51, 52, 53, 54, 55, 56, 57, 97, 98, 99, 100, 101, 102]⟩ : ByteArray).size : Nat) : Int) = 16 := rfl
theorem hexL_len (l : List Int) : (hexL l).length = 2 * l.length := by
  induction l with
  | nil => rfl
  | cons x l ih =>
    unfold hexL at ih ⊢
    rw [List.flatMap_cons, List.length_append, ih]
    simp only [List.length_cons, List.length_nil]; omega
theorem K_spec_l1Hex : Sound1 Tryd.prog EKs F_spec_l1Hex.f S_spec_l1Hex := snd ok_spec_l1Hex [] (tabF_nil _ _) fun args sp h hp => by
  unfold S_spec_l1Hex at h
  split at h
  · rename_i s
    cases h
    have hm : s.size < 1000000000 := of_decide_eq_true hp
    refine ⟨rfl, s.size + 1, (spec_l1Hex_run _ _).trans ?_⟩
    refine fix3 (T := fun k => spec_l1Hex_T3 k) (fun i s' r => s' = s ∧ (0 ≤ i ∧ i ≤ s.size) ∧ r = hexL ((bytesL s).take i.toNat)) (fun i _ _ => s.size - i.toNat) (fun _ _ _ => ([T (hexS s)], [])) ?_ _ _ _ _ ⟨rfl, ⟨by omega, by omega⟩, rfl⟩ (by omega)
    rintro i s' r K ⟨rfl, ⟨q0, q1⟩, rfl⟩ hK
    unfold spec_l1Hex_T3
    dsimp only
    by_cases hi : i < s'.size
    · obtain ⟨f1, f2⟩ := hex_fit s' i
      have hlen : (hexL ((bytesL s').take i.toNat)).length + 2 < 1099511627776 := by rw [hexL_len, List.length_take, bytesL_len]; omega
      have e : bt s' i = bt s' i.toNat := by rw [Int.toNat_of_nonneg q0]
      rw [decide_eq_true hi, decide_eq_true q0, hex16, decide_eq_true f1, decide_eq_true f2, decide_eq_true hlen, w64i q0 (by omega)]
      refine (hK (i + 1) s' _ ⟨rfl, ⟨by omega, by omega⟩, ?_⟩ (by omega))
      rw [show (i + 1).toNat = i.toNat + 1 by omega, hexL_at s' (by omega), ← e]; rfl
    · rw [decide_eq_false hi, List.take_of_length_le (by rw [bytesL_len]; omega)]; rfl
  · cases h
theorem K_impl_hexOf : Sound1 Tryd.prog EKs F_impl_hexOf.f S_impl_hexOf := snd ok_impl_hexOf [] (tabF_nil _ _) fun args sp h hp => by
  unfold S_impl_hexOf S_spec_l1Hex at h
  split at h
  · rename_i s
    cases h
    have hm : s.size < 1000000000 := of_decide_eq_true hp
    refine ⟨rfl, s.size + 1, (impl_hexOf_run _ _).trans ?_⟩
    refine fix3 (T := fun k => impl_hexOf_T3 k) (fun i s' r => s' = s ∧ (0 ≤ i ∧ i ≤ s.size) ∧ r = hexL ((bytesL s).take i.toNat)) (fun i _ _ => s.size - i.toNat) (fun _ _ _ => ([T (hexS s)], [])) ?_ _ _ _ _ ⟨rfl, ⟨by omega, by omega⟩, rfl⟩ (by omega)
    rintro i s' r K ⟨rfl, ⟨q0, q1⟩, rfl⟩ hK
    unfold impl_hexOf_T3
    dsimp only
    by_cases hi : i < s'.size
    · obtain ⟨f1, f2⟩ := hex_fit s' i
      have hlen : (hexL ((bytesL s').take i.toNat)).length + 2 < 1099511627776 := by rw [hexL_len, List.length_take, bytesL_len]; omega
      have e : bt s' i = bt s' i.toNat := by rw [Int.toNat_of_nonneg q0]
      rw [decide_eq_true hi, decide_eq_true q0, hex16, decide_eq_true f1, decide_eq_true f2, decide_eq_true hlen, w64i q0 (by omega)]
      refine (hK (i + 1) s' _ ⟨rfl, ⟨by omega, by omega⟩, ?_⟩ (by omega))
      rw [show (i + 1).toNat = i.toNat + 1 by omega, hexL_at s' (by omega), ← e]; rfl
    · rw [decide_eq_false hi, List.take_of_length_le (by rw [bytesL_len]; omega)]; rfl
  · cases h
/-! bytes with what is put behind them -/
theorem padE_go {n : Int} (k : Nat) : (padE n).take (k + 1) = (padE n).take k ++ ((padE n)[k]?).toList := by
  rw [List.take_add_one]
theorem pad_sum (s : ByteArray) : (bytesL s ++ [128] ++ List.replicate (padN s.size) 0).length % 64 = 56 := by
  simp only [List.length_append, bytesL_len, List.length_cons, List.length_nil, List.length_replicate, padN]
  omega
theorem padL_len (s : ByteArray) : (padL s).length % 64 = 0 ∧ (padL s).length ≤ s.size + 73 ∧ 64 ≤ (padL s).length := by
  simp only [padL, List.length_append, bytesL_len, List.length_cons, List.length_nil, List.length_replicate, padN, padE, List.length_map]
  omega
theorem tmod64 (n : Nat) : Int.tmod (n : Int) 64 = ((n % 64 : Nat) : Int) := by rw [Int.tmod_eq_emod_of_nonneg (by omega)]; omega
/-- Noughts, as long as they are wanted. -/
theorem pad_more (s : ByteArray) (j : Nat) : (((bytesL s ++ [128] ++ List.replicate j 0).length : Int).tmod 64 != 56) = decide ((s.size + 1 + j) % 64 ≠ 56) := by
  rw [tmod64]
  simp only [List.length_append, bytesL_len, List.length_cons, List.length_nil, List.length_replicate]
  by_cases h : (s.size + 1 + j) % 64 = 56
  · rw [show s.size + (0 + 1) + j = s.size + 1 + j by omega, h]; rfl
  · rw [show s.size + (0 + 1) + j = s.size + 1 + j by omega, decide_eq_true h]
    simp only [bne_iff_ne, ne_eq]; omega
theorem pad_step (n j : Nat) (hj : j ≤ padN n) : ((n + 1 + j) % 64 ≠ 56 → j < padN n) ∧ ((n + 1 + j) % 64 = 56 → j = padN n) := by
  unfold padN at *
  constructor <;> intro h <;> omega
theorem min64 {x : Nat} (h : x ≤ 64) : min x 64 = x := by omega
theorem K_spec_l1Padded : Sound1 Tryd.prog EKs F_spec_l1Padded.f S_spec_l1Padded := snd ok_spec_l1Padded [] (tabF_nil _ _) fun args sp h hp => by
  unfold S_spec_l1Padded at h
  split at h
  · rename_i s
    cases h
    have hm : s.size < 1000000000 := of_decide_eq_true hp
    refine ⟨rfl, 65, (spec_l1Padded_run _ _).trans ?_⟩
    unfold spec_l1Padded_T
    rw [decide_eq_true (show s.size < 1099511627776 by omega), decide_eq_true (show (bytesL s).length + 1 < 1099511627776 by rw [bytesL_len]; omega)]
    have hpn : padN s.size ≤ 63 := by unfold padN; omega
    have key : ∀ (m j : Nat), j ≤ padN s.size → padN s.size - j < m → spec_l1Padded_W2 65 m (s, bytesL s ++ [128] ++ List.replicate j 0) = some ([Bs (padL s)], []) := by
      intro m
      induction m with
      | zero => intro j _ hm; omega
      | succ m ih =>
        intro j hj hm'
        show spec_l1Padded_T2 (spec_l1Padded_W2 65 m) (spec_l1Padded_W6 65 65) (s, bytesL s ++ [128] ++ List.replicate j 0) = _
        unfold spec_l1Padded_T2
        dsimp only
        obtain ⟨p1, p2⟩ := pad_step s.size j hj
        rw [pad_more]
        by_cases hq : (s.size + 1 + j) % 64 = 56
        · rw [decide_eq_false (by omega), p2 hq]
          have e8 : IntKind.wrap .i64 ((s.size : Int) * 8) = (s.size : Int) * 8 := w64 (by omega) (by omega)
          rw [e8]
          generalize hX : bytesL s ++ [128] ++ List.replicate (padN s.size) 0 = X
          have hXl : X.length ≤ s.size + 64 := by
            rw [← hX]
            simp only [List.length_append, bytesL_len, List.length_cons, List.length_nil, List.length_replicate]
            omega
          have hend : padL s = X ++ padE ((s.size : Int) * 8) := by rw [← hX]; rfl
          generalize (s.size : Int) * 8 = n at *
          rw [hend]
          have l8 : ∀ i : Nat, i ≤ 8 → (X ++ (padE n).take i).length + 1 < 1099511627776 := fun i hi => by
            rw [List.length_append, List.length_take]; omega
          have step : ∀ (i : Nat), i ≤ 7 → ∀ mm, spec_l1Padded_W6 65 (mm + 1) (((7 - i : Nat) : Int), n, X ++ (padE n).take i) = spec_l1Padded_W6 65 mm (((7 - i : Nat) : Int) - 1, n, X ++ (padE n).take (i + 1)) := by
            intro i hi mm
            show spec_l1Padded_T6 (spec_l1Padded_W6 65 mm) (((7 - i : Nat) : Int), n, X ++ (padE n).take i) = _
            unfold spec_l1Padded_T6
            dsimp only
            have e1 : IntKind.wrap .i64 (8 * ((7 - i : Nat) : Int)) = 8 * ((7 - i : Nat) : Int) := w64 (by omega) (by omega)
            have e2 : IntKind.wrap .i64 (((7 - i : Nat) : Int) - 1) = ((7 - i : Nat) : Int) - 1 := w64 (by omega) (by omega)
            rw [e1, e2, decide_eq_true (show ((7 - i : Nat) : Int) ≥ 0 by omega), decide_eq_true (show (0 : Int) ≤ 8 * ((7 - i : Nat) : Int) by omega), decide_eq_true (l8 i (by omega))]
            dsimp only [cond]
            congr 1
            rw [padE_go, ← List.append_assoc]
            have e3 : (8 * ((7 - i : Nat) : Int)).toNat = 8 * (7 - i) := by omega
            rw [e3]
            have hi8 : i = 0 ∨ i = 1 ∨ i = 2 ∨ i = 3 ∨ i = 4 ∨ i = 5 ∨ i = 6 ∨ i = 7 := by omega
            rcases hi8 with rfl | rfl | rfl | rfl | rfl | rfl | rfl | rfl <;> rfl
          have e0 : ((X ++ (padE n).take 0) : List Int) = X := by simp
          have s0 := step 0 (by omega) 64
          rw [e0] at s0
          refine s0.trans ((step 1 (by omega) 63).trans ((step 2 (by omega) 62).trans ((step 3 (by omega) 61).trans ((step 4 (by omega) 60).trans ((step 5 (by omega) 59).trans ((step 6 (by omega) 58).trans ((step 7 (by omega) 57).trans ?_)))))))
          rfl
        · rw [decide_eq_true hq]
          have hlen : (bytesL s ++ [128] ++ List.replicate j 0).length + 1 < 1099511627776 := by
            simp only [List.length_append, bytesL_len, List.length_cons, List.length_nil, List.length_replicate]; omega
          rw [decide_eq_true hlen]
          have := ih (j + 1) (by have := p1 hq; omega) (by have := p1 hq; omega)
          rw [List.replicate_succ', ← List.append_assoc] at this
          exact this
    have := key 65 0 (Nat.zero_le _) (by omega)
    rw [List.replicate_zero, List.append_nil] at this
    exact this
  · cases h
end Go.Proofs.YtbgheffgkncpgaaDoor.V
namespace Go.Proofs.YtbgheffgkncpgaaDoor.V
open Go Vx Vx.N
/-! ### SHA-256: the rounds -/
theorem toNat_nat (n : Nat) : ((n : Nat) : Int).toNat = n := Int.toNat_natCast n
theorem fold_xor (a b : Int) : IntKind.wrap .u32 ((BitVec.ofInt (IntKind.bits .u32) a ^^^ BitVec.ofInt (IntKind.bits .u32) b).toNat : Int) = xorW a b := rfl
theorem fold_or (a b : Int) : IntKind.wrap .u32 ((BitVec.ofInt (IntKind.bits .u32) a ||| BitVec.ofInt (IntKind.bits .u32) b).toNat : Int) = orW a b := rfl
theorem fold_and (a b : Int) : IntKind.wrap .u32 ((BitVec.ofInt (IntKind.bits .u32) a &&& BitVec.ofInt (IntKind.bits .u32) b).toNat : Int) = andW a b := rfl
theorem fold_add (a b : Int) : IntKind.wrap .u32 (a + b) = addW a b := rfl
theorem fold_shl (a : Int) (n : Nat) : IntKind.wrap .u32 (a * 2 ^ min n (IntKind.bits .u32)) = shlW a n := rfl
theorem fold_shr (a : Int) (n : Nat) : Int.fdiv a (2 ^ min n (IntKind.bits .u32)) = shrW a n := rfl
theorem fold_not (a : Int) : xorW (if IntKind.signed .u32 = true then -1 else IntKind.max .u32) a = notW a := rfl
theorem sched_len (b : List Int) : ∀ n, (sched b n).length = n
  | 0 => rfl
  | n + 1 => by rw [sched, List.length_append, sched_len b n]; rfl
theorem sched_lt {b : List Int} {n : Nat} (h : n < 16) : sched b (n + 1) = sched b n ++ [wAt b n] := by rw [sched, if_pos h]
theorem sched_ge {b : List Int} {n : Nat} (h : ¬ n < 16) : sched b (n + 1) = sched b n ++ [wNext (sched b n) n] := by rw [sched, if_neg h]
theorem K_spec_l1Words : Sound1 Tryd.prog EKs F_spec_l1Words.f S_spec_l1Words := snd ok_spec_l1Words [(F_spec_l1Turn.f, S_spec_l1Turn)] (tabF_cons K_spec_l1Turn (tabF_nil _ _)) fun args sp h hp => by
  unfold S_spec_l1Words at h
  split at h
  · rename_i b
    cases h
    have hb : b.length = 64 := of_decide_eq_true hp
    refine ⟨rfl, 100, (spec_l1Words_run _ _).trans ?_⟩
    have key2 : ∀ (m n : Nat), 16 ≤ n → n ≤ 64 → 64 - n < m → spec_l1Words_W7 100 m ((n : Int), sched b n) = some ([Ws (sched b 64)], []) := by
      intro m
      induction m with
      | zero => intro n _ _ hm; omega
      | succ m ih =>
        intro n h16 h64 hm
        show spec_l1Words_T7 (spec_l1Words_W7 100 m) ((n : Int), sched b n) = _
        unfold spec_l1Words_T7
        dsimp only
        by_cases hn : n < 64
        · have e15 : IntKind.wrap .i64 ((n : Int) - 15) = ((n - 15 : Nat) : Int) := (w64 (by omega) (by omega)).trans (by omega)
          have e2 : IntKind.wrap .i64 ((n : Int) - 2) = ((n - 2 : Nat) : Int) := (w64 (by omega) (by omega)).trans (by omega)
          have e16 : IntKind.wrap .i64 ((n : Int) - 16) = ((n - 16 : Nat) : Int) := (w64 (by omega) (by omega)).trans (by omega)
          have e7 : IntKind.wrap .i64 ((n : Int) - 7) = ((n - 7 : Nat) : Int) := (w64 (by omega) (by omega)).trans (by omega)
          have e1 : IntKind.wrap .i64 ((n : Int) + 1) = ((n + 1 : Nat) : Int) := (w64i (by omega) (by omega)).trans (by omega)
          have hl := sched_len b n
          rw [e15, e2, e16, e7, e1, hl, decide_eq_true (show (n : Int) < 64 by omega), decide_eq_true (show (0 : Int) ≤ ((n - 15 : Nat) : Int) by omega), decide_eq_true (show ((n - 15 : Nat) : Int) < (n : Int) by omega), decide_eq_true (show (0 : Int) ≤ ((n - 2 : Nat) : Int) by omega), decide_eq_true (show ((n - 2 : Nat) : Int) < (n : Int) by omega), decide_eq_true (show (0 : Int) ≤ ((n - 16 : Nat) : Int) by omega), decide_eq_true (show ((n - 16 : Nat) : Int) < (n : Int) by omega), decide_eq_true (show (0 : Int) ≤ ((n - 7 : Nat) : Int) by omega), decide_eq_true (show ((n - 7 : Nat) : Int) < (n : Int) by omega), decide_eq_true (show n + 1 < 1099511627776 by omega), toNat_nat, toNat_nat, toNat_nat, toNat_nat]
          have := ih (n + 1) (by omega) (by omega) (by omega)
          rw [sched_ge (by omega)] at this
          simp only [fold_xor, fold_shr, fold_add, cond_true]
          exact this
        · have : n = 64 := by omega
          subst this
          rfl
    have key : ∀ (m n : Nat), n ≤ 16 → 16 - n < m → spec_l1Words_W3 100 m ((n : Int), b, sched b n) = some ([Ws (sched b 64)], []) := by
      intro m
      induction m with
      | zero => intro n _ hm; omega
      | succ m ih =>
        intro n h16 hm
        show spec_l1Words_T3 (spec_l1Words_W3 100 m) (spec_l1Words_W7 100 100) ((n : Int), b, sched b n) = _
        unfold spec_l1Words_T3
        dsimp only
        by_cases hn : n < 16
        · have e0 : IntKind.wrap .i64 (4 * (n : Int)) = ((4 * n : Nat) : Int) := (w64 (by omega) (by omega)).trans (by omega)
          have e1 : IntKind.wrap .i64 (((4 * n : Nat) : Int) + 1) = ((4 * n + 1 : Nat) : Int) := (w64 (by omega) (by omega)).trans (by omega)
          have e2 : IntKind.wrap .i64 (((4 * n : Nat) : Int) + 2) = ((4 * n + 2 : Nat) : Int) := (w64 (by omega) (by omega)).trans (by omega)
          have e3 : IntKind.wrap .i64 (((4 * n : Nat) : Int) + 3) = ((4 * n + 3 : Nat) : Int) := (w64 (by omega) (by omega)).trans (by omega)
          have e4 : IntKind.wrap .i64 ((n : Int) + 1) = ((n + 1 : Nat) : Int) := (w64i (by omega) (by omega)).trans (by omega)
          have hl := sched_len b n
          rw [e0, e1, e2, e3, e4, hl, hb, decide_eq_true (show (n : Int) < 16 by omega), decide_eq_true (show (0 : Int) ≤ ((4 * n : Nat) : Int) by omega), decide_eq_true (show ((4 * n : Nat) : Int) < (64 : Nat) by omega), decide_eq_true (show (0 : Int) ≤ ((4 * n + 1 : Nat) : Int) by omega), decide_eq_true (show ((4 * n + 1 : Nat) : Int) < (64 : Nat) by omega), decide_eq_true (show (0 : Int) ≤ ((4 * n + 2 : Nat) : Int) by omega), decide_eq_true (show ((4 * n + 2 : Nat) : Int) < (64 : Nat) by omega), decide_eq_true (show (0 : Int) ≤ ((4 * n + 3 : Nat) : Int) by omega), decide_eq_true (show ((4 * n + 3 : Nat) : Int) < (64 : Nat) by omega), decide_eq_true (show n + 1 < 1099511627776 by omega), toNat_nat, toNat_nat, toNat_nat, toNat_nat]
          have := ih (n + 1) (by omega) (by omega)
          rw [sched_lt hn] at this
          simp only [fold_or, fold_shl, cond_true]
          exact this
        · have : n = 16 := by omega
          subst this
          refine Eq.trans ?_ (key2 100 16 (by omega) (by omega) (by omega))
          kernel_rfl
    have hk := key 100 0 (by omega) (by omega)
    generalize spec_l1Words_W3 100 100 = F at hk ⊢
    exact hk
  · cases h
theorem eight {l : List Int} (h : l.length = 8) : ∃ a b c d e f g i, l = [a, b, c, d, e, f, g, i] := by
  match l, h with
  | [a, b, c, d, e, f, g, i], _ => exact ⟨a, b, c, d, e, f, g, i, rfl⟩
theorem rnds_len {h w : List Int} (hh : h.length = 8) : ∀ n, (rnds h w n).length = 8
  | 0 => hh
  | _ + 1 => rfl
theorem tab0_len : tab0.length = 64 := rfl
theorem spec_shift (K : spec_l1Block_X5 → Rs) (mj a t i : Int) (h r1 r0 : List Int) (s0 s1 s2 s3 s4 s5 s6 s7 : Int) :
    spec_l1Block_W13 100 K 100 (7, mj, a, t, i, h, [s0, s1, s2, s3, s4, s5, s6, s7], r1, r0) = K (IntKind.wrap .i64 (i + 1), h, [addW (addW t a) mj, s0, s1, s2, addW s3 t, s4, s5, s6], r1, r0) := by kernel_rfl
theorem spec_sum (a0 a1 a2 a3 a4 a5 a6 a7 s0 s1 s2 s3 s4 s5 s6 s7 : Int) :
    spec_l1Block_W20 100 100 (0, [a0, a1, a2, a3, a4, a5, a6, a7], [], [s0, s1, s2, s3, s4, s5, s6, s7]) = some ([Ws (sumW [a0, a1, a2, a3, a4, a5, a6, a7] [s0, s1, s2, s3, s4, s5, s6, s7])], []) := by kernel_rfl
theorem spec_turn (m : Nat) (K20 : spec_l1Block_X20 → Rs) {n : Nat} {hh S W : List Int} (hn : n < 64) (hS : S.length = 8) (hw : W.length = 64) :
    spec_l1Block_T5 (spec_l1Block_W13 100 (spec_l1Block_W5 100 m) 100) K20 ((n : Int), hh, S, tab0, W) = spec_l1Block_W5 100 m (((n + 1 : Nat) : Int), hh, rndW S (tab0.getD n 0) (W.getD n 0), tab0, W) := by
  generalize spec_l1Block_W5 100 m = K
  unfold spec_l1Block_T5
  dsimp only
  rw [hw, tab0_len, hS, decide_eq_true (show (n : Int) < 64 by omega), decide_eq_true (show (0 : Int) ≤ (n : Int) by omega), decide_eq_true (show (n : Int) < ((64 : Nat) : Int) by omega), toNat_nat, decide_eq_true (show (0 : Int) < ((8 : Nat) : Int) by omega), decide_eq_true (show (1 : Int) < ((8 : Nat) : Int) by omega), decide_eq_true (show (2 : Int) < ((8 : Nat) : Int) by omega), decide_eq_true (show (4 : Int) < ((8 : Nat) : Int) by omega), decide_eq_true (show (5 : Int) < ((8 : Nat) : Int) by omega), decide_eq_true (show (6 : Int) < ((8 : Nat) : Int) by omega), decide_eq_true (show (7 : Int) < ((8 : Nat) : Int) by omega)]
  simp only [fold_xor, fold_and, fold_not, fold_add, cond_true]
  have e1 : IntKind.wrap .i64 ((n : Int) + 1) = ((n + 1 : Nat) : Int) := (w64i (by omega) (by omega)).trans (by omega)
  obtain ⟨s0, s1, s2, s3, s4, s5, s6, s7, rfl⟩ := eight hS
  have hy := spec_shift K (majW s0 s1 s2) (Sg0 s0) (t1W [s0, s1, s2, s3, s4, s5, s6, s7] (tab0.getD n 0) (W.getD n 0)) n hh tab0 W s0 s1 s2 s3 s4 s5 s6 s7
  rw [e1] at hy
  generalize spec_l1Block_W13 100 K 100 = F at hy ⊢
  generalize tab0.getD n 0 = kk at hy ⊢
  generalize W.getD n 0 = ww at hy ⊢
  exact hy
theorem spec_end (K13 : spec_l1Block_X13 → Rs) {hh S W : List Int} (hl : hh.length = 8) (hS : S.length = 8) :
    spec_l1Block_T5 K13 (spec_l1Block_W20 100 100) (((64 : Nat) : Int), hh, S, tab0, W) = some ([Ws (sumW hh S)], []) := by
  obtain ⟨s0, s1, s2, s3, s4, s5, s6, s7, rfl⟩ := eight hS
  obtain ⟨a0, a1, a2, a3, a4, a5, a6, a7, rfl⟩ := eight hl
  rw [← spec_sum]
  unfold spec_l1Block_T5
  dsimp only
  rw [decide_eq_false (show ¬ (((64 : Nat) : Int) < 64) by omega)]
  simp only [cond_false]
theorem K_spec_l1Block : Sound1 Tryd.prog EKs F_spec_l1Block.f S_spec_l1Block := snd ok_spec_l1Block [(F_spec_l1Words.f, S_spec_l1Words), (F_spec_l1Consts.f, S_spec_l1Consts), (F_spec_l1Turn.f, S_spec_l1Turn)] (tabF_cons K_spec_l1Words (tabF_cons K_spec_l1Consts (tabF_cons K_spec_l1Turn (tabF_nil _ _)))) fun args sp h hp => by
  unfold S_spec_l1Block at h
  split at h
  · rename_i hh b
    cases h
    obtain ⟨h8, hb⟩ := of_decide_eq_true hp
    refine ⟨rfl, 100, (spec_l1Block_run _ _ _).trans ?_⟩
    unfold spec_l1Block_T
    rw [decide_eq_true hb, decide_eq_true (show 0 + hh.length < 1099511627776 by omega)]
    have hw : (sched b 64).length = 64 := sched_len b 64
    have key : ∀ (m n : Nat), n ≤ 64 → 64 - n < m → spec_l1Block_W5 100 m ((n : Int), hh, rnds hh (sched b 64) n, tab0, sched b 64) = some ([Ws (blkW hh b)], []) := by
      intro m
      induction m with
      | zero => intro n _ hm; omega
      | succ m ih =>
        intro n h64 hm
        show spec_l1Block_T5 (spec_l1Block_W13 100 (spec_l1Block_W5 100 m) 100) (spec_l1Block_W20 100 100) ((n : Int), hh, rnds hh (sched b 64) n, tab0, sched b 64) = _
        by_cases hn : n < 64
        · have hx := ih (n + 1) (by omega) (by omega)
          rw [show rnds hh (sched b 64) (n + 1) = rndW (rnds hh (sched b 64) n) (tab0.getD n 0) ((sched b 64).getD n 0) from rfl] at hx
          exact (spec_turn _ _ hn (rnds_len (w := sched b 64) h8 n) hw).trans hx
        · have : n = 64 := by omega
          subst this
          exact spec_end _ h8 (rnds_len (w := sched b 64) h8 64)
    have hk : spec_l1Block_W5 100 100 (0, hh, [] ++ hh, shaK, sched b 64) = some ([Ws (blkW hh b)], []) := key 100 0 (by omega) (by omega)
    rw [cond_true, cond_true]
    exact hk
  · cases h
theorem blkW_len (h b : List Int) : (blkW h b).length = 8 := rfl
theorem spec_out (a0 a1 a2 a3 a4 a5 a6 a7 : Int) : spec_l1Sum_W9 20000000 20000000 (0, [], [a0, a1, a2, a3, a4, a5, a6, a7]) = some ([T (strOf (outW [a0, a1, a2, a3, a4, a5, a6, a7]))], []) := by kernel_rfl
theorem K_spec_l1Sum : Sound1 Tryd.prog EKs F_spec_l1Sum.f S_spec_l1Sum := snd ok_spec_l1Sum [(F_spec_l1Padded.f, S_spec_l1Padded), (F_spec_l1Block.f, S_spec_l1Block)] (tabF_cons K_spec_l1Padded (tabF_cons K_spec_l1Block (tabF_nil _ _))) fun args sp h hp => by
  unfold S_spec_l1Sum at h
  split at h
  · rename_i s
    cases h
    have hm : s.size < 1000000000 := of_decide_eq_true hp
    refine ⟨rfl, 20000000, (spec_l1Sum_run _ _).trans ?_⟩
    unfold spec_l1Sum_T sumS
    rw [decide_eq_true hm]
    obtain ⟨p1, p2, p3⟩ := padL_len s
    generalize padL s = P at *
    generalize hq : P.length / 64 = q
    have hP : P.length = 64 * q := by omega
    have key : ∀ (m j : Nat) (hh : List Int), hh.length = 8 → j ≤ q → q - j < m → spec_l1Sum_W4 20000000 m (((64 * j : Nat) : Int), P, hh) = some ([T (strOf (outW (blksW (q - j) hh (P.drop (64 * j)))))], []) := by
      intro m
      induction m with
      | zero => intro j _ _ _ hm; omega
      | succ m ih =>
        intro j hh h8 hj hm'
        show spec_l1Sum_T4 (spec_l1Sum_W4 20000000 m) (spec_l1Sum_W9 20000000 20000000) (((64 * j : Nat) : Int), P, hh) = _
        unfold spec_l1Sum_T4
        dsimp only
        by_cases hn : j < q
        · have e1 : IntKind.wrap .i64 (((64 * j : Nat) : Int) + 64) = ((64 * (j + 1) : Nat) : Int) := (w64 (by omega) (by omega)).trans (by omega)
          rw [e1, toNat_nat, toNat_nat, hP, decide_eq_true (show ((64 * j : Nat) : Int) < ((64 * q : Nat) : Int) by omega), decide_eq_true (show (0 : Int) ≤ ((64 * j : Nat) : Int) by omega), decide_eq_true (show ((64 * j : Nat) : Int) ≤ ((64 * (j + 1) : Nat) : Int) by omega), decide_eq_true (show ((64 * (j + 1) : Nat) : Int) ≤ ((64 * q : Nat) : Int) by omega)]
          have hsl : List.drop (64 * j) (List.take (64 * (j + 1)) P) = (P.drop (64 * j)).take 64 := by
            rw [List.drop_take, show 64 * (j + 1) - 64 * j = 64 by omega]
          rw [hsl, decide_eq_true (show hh.length = 8 ∧ ((P.drop (64 * j)).take 64).length = 64 from ⟨h8, by rw [List.length_take, List.length_drop, hP]; omega⟩)]
          have := ih (j + 1) (blkW hh ((P.drop (64 * j)).take 64)) (blkW_len _ _) (by omega) (by omega)
          rw [show q - j = q - (j + 1) + 1 by omega, blksW, List.drop_drop, show 64 * j + 64 = 64 * (j + 1) by omega]
          simp only [cond_true]
          exact this
        · have : j = q := by omega
          subst this
          rw [hP, decide_eq_false (by omega), Nat.sub_self]
          obtain ⟨a0, a1, a2, a3, a4, a5, a6, a7, ha⟩ := eight h8
          rw [ha]
          refine Eq.trans ?_ (spec_out a0 a1 a2 a3 a4 a5 a6 a7)
          kernel_rfl
    have := key 20000000 0 shaH rfl (by omega) (by omega)
    rw [Nat.mul_zero, List.drop_zero, Nat.sub_zero] at this
    rw [cond_true]
    exact this
  · cases h
end Go.Proofs.YtbgheffgkncpgaaDoor.V
