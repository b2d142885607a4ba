/- What functions come to, and that they do so; conditions: those that each theorem states. -/
import Derived.Test.YtbgheffgkncpgaaDoorKhK14G
set_option linter.unusedVariables false
set_option linter.unusedSimpArgs false
namespace Go.Proofs.YtbgheffgkncpgaaDoor.V
open Go Vx Vx.N
/-! ### SHA-256: the program's -/
theorem addW_assoc (x a b : Int) : addW x (addW a b) = addW (addW x a) b := by
  show (x + (a + b) % 4294967296) % 4294967296 = ((x + a) % 4294967296 + b) % 4294967296
  omega
theorem addW_swap (x q a c : Int) : addW (addW (addW x q) a) c = addW (addW (addW x a) q) c := by
  show (((x + q) % 4294967296 + a) % 4294967296 + c) % 4294967296 = (((x + a) % 4294967296 + q) % 4294967296 + c) % 4294967296
  omega
theorem getD_take (b : List Int) {i n : Nat} (h : i < n) : (b.take n).getD i 0 = b.getD i 0 := by
  rw [List.getD_eq_getElem?_getD, List.getD_eq_getElem?_getD, List.getElem?_take, if_pos h]
theorem wAt_take (b : List Int) {i : Nat} (h : i < 16) : wAt (b.take 64) i = wAt b i := by
  unfold wAt
  rw [getD_take b (by omega), getD_take b (by omega), getD_take b (by omega), getD_take b (by omega)]
theorem sched_take (b : List Int) : ∀ n, sched (b.take 64) n = sched b n
  | 0 => rfl
  | n + 1 => by
    rw [sched, sched, sched_take b n]
    by_cases h : n < 16
    · rw [if_pos h, if_pos h, wAt_take b h]
    · rw [if_neg h, if_neg h]
theorem set_next (l : List Int) (k : Nat) (x : Int) {n : Nat} (hn : l.length = n) : (l ++ List.replicate (k + 1) 0).set n x = l ++ [x] ++ List.replicate k 0 := by
  subst hn
  rw [List.set_append_right _ _ (Nat.le_refl _), Nat.sub_self, List.replicate_succ, List.set_cons_zero, List.append_assoc]; rfl
theorem getD_left (l r : List Int) {j : Nat} (h : j < l.length) : (l ++ r).getD j 0 = l.getD j 0 := by
  rw [List.getD_eq_getElem?_getD, List.getD_eq_getElem?_getD, List.getElem?_append_left h]
abbrev zero64 : List Int := [0, 0, 0, 0, 0, 0, 0, 0, 0, 0, 0, 0, 0, 0, 0, 0, 0, 0, 0, 0, 0, 0, 0, 0, 0, 0, 0, 0, 0, 0, 0, 0, 0, 0, 0, 0, 0, 0, 0, 0, 0, 0, 0, 0, 0, 0, 0, 0, 0, 0, 0, 0, 0, 0, 0, 0, 0, 0, 0, 0, 0, 0, 0, 0]
theorem impl_add (K10 : impl_sha256Of_X10 → Rs) (b : List Int) (v0 v1 v2 v3 v4 v5 v6 v7 h0 h1 h2 h3 h4 h5 h6 h7 : Int) :
    impl_sha256Of_W31 20000000 K10 20000000 (0, b, [v0, v1, v2, v3, v4, v5, v6, v7], [h0, h1, h2, h3, h4, h5, h6, h7]) =
      cond (decide (64 ≤ (b.length : Int))) (cond (decide ((b.length : Int) ≤ (b.length : Int))) (K10 (List.drop 64 (List.take (Int.toNat (b.length : Int)) b), sumW [h0, h1, h2, h3, h4, h5, h6, h7] [v0, v1, v2, v3, v4, v5, v6, v7])) none) none := by kernel_rfl
theorem impl_end (K10 : impl_sha256Of_X10 → Rs) {b v h : List Int} (hb : 64 ≤ b.length) (hv : v.length = 8) (hh : h.length = 8) :
    impl_sha256Of_W31 20000000 K10 20000000 (0, b, v, h) = K10 (b.drop 64, sumW h v) := by
  obtain ⟨v0, v1, v2, v3, v4, v5, v6, v7, rfl⟩ := eight hv
  obtain ⟨h0, h1, h2, h3, h4, h5, h6, h7, rfl⟩ := eight hh
  rw [impl_add, decide_eq_true (show (64 : Int) ≤ (b.length : Int) by omega), decide_eq_true (Int.le_refl _), cond_true, cond_true, toNat_nat, List.take_length]
theorem impl_turn (K : impl_sha256Of_X23 → Rs) (K31 : impl_sha256Of_X31 → Rs) {n : Nat} {b v w h : List Int} (hn : n < 64) (hv : v.length = 8) (hw : w.length = 64) :
    impl_sha256Of_T23 K K31 ((n : Int), b, v, w, h) = K (((n + 1 : Nat) : Int), b, rndW v (tab0.getD n 0) (w.getD n 0), w, h) := by
  unfold impl_sha256Of_T23
  dsimp only
  have e1 : IntKind.wrap .i64 ((n : Int) + 1) = ((n + 1 : Nat) : Int) := (w64i (by omega) (by omega)).trans (by omega)
  rw [hv, hw, tab0_len, e1, decide_eq_true (show (n : Int) < 64 by omega), decide_eq_true (show 8 ≤ 8 by omega), decide_eq_true (show (0 : Int) ≤ (n : Int) by omega), toNat_nat, decide_eq_true (show n < 64 from hn), decide_eq_true (show 64 ≤ 64 by omega), decide_eq_true (show 8 = 8 from rfl)]
  simp only [fold_xor, fold_and, fold_not, fold_add, cond_true]
  unfold rndW
  rw [← addW_assoc (t1W v (tab0.getD n 0) (w.getD n 0)) (Sg0 (v.getD 0 0)) (majW (v.getD 0 0) (v.getD 1 0) (v.getD 2 0))]
  rfl
theorem impl_rounds (K10 : impl_sha256Of_X10 → Rs) {b w h : List Int} (hb : 64 ≤ b.length) (hw : w.length = 64) (hh : h.length = 8) : ∀ (m n : Nat), n ≤ 64 → 64 - n < m →
    impl_sha256Of_W23 20000000 K10 m ((n : Int), b, rnds h w n, w, h) = K10 (b.drop 64, sumW h (rnds h w 64)) := by
  intro m
  induction m with
  | zero => intro n _ hm; omega
  | succ m ih =>
    intro n h64 hm
    show impl_sha256Of_T23 (impl_sha256Of_W23 20000000 K10 m) (impl_sha256Of_W31 20000000 K10 20000000) ((n : Int), b, rnds h w n, w, h) = _
    by_cases hn : n < 64
    · exact (impl_turn _ _ hn (rnds_len hh n) hw).trans (ih (n + 1) (by omega) (by omega))
    · have : n = 64 := by omega
      subst this
      have he := impl_end K10 hb (rnds_len (w := w) hh 64) hh
      generalize impl_sha256Of_W31 20000000 K10 20000000 = F at he ⊢
      unfold impl_sha256Of_T23
      dsimp only
      rw [decide_eq_false (show ¬ (((64 : Nat) : Int) < 64) by omega), cond_false]
      exact he
theorem impl_words (K10 : impl_sha256Of_X10 → Rs) {b h : List Int} (hb : 64 ≤ b.length) (hh : h.length = 8) : ∀ (m n : Nat), n ≤ 64 → 64 - n < m →
    impl_sha256Of_W14 20000000 K10 m ((n : Int), b, sched b n ++ List.replicate (64 - n) 0, h) = K10 (b.drop 64, sumW h (rnds h (sched b 64) 64)) := by
  intro m
  induction m with
  | zero => intro n _ hm; omega
  | succ m ih =>
    intro n h64 hm
    show impl_sha256Of_T14 (impl_sha256Of_W14 20000000 K10 m) (impl_sha256Of_W23 20000000 K10 20000000) ((n : Int), b, sched b n ++ List.replicate (64 - n) 0, h) = _
    have hsl := sched_len b n
    have hlen : (sched b n ++ List.replicate (64 - n) 0).length = 64 := by rw [List.length_append, hsl, List.length_replicate]; omega
    by_cases hn : n < 64
    · have hx := ih (n + 1) (by omega) (by omega)
      have e1 : IntKind.wrap .i64 ((n : Int) + 1) = ((n + 1 : Nat) : Int) := (w64i (by omega) (by omega)).trans (by omega)
      have hk : 64 - n = (64 - (n + 1)) + 1 := by omega
      by_cases h16 : n < 16
      · have e0 : IntKind.wrap .i64 (4 * (n : Int)) = ((4 * n : Nat) : Int) := (w64 (by omega) (by omega)).trans (by omega)
        have f1 : IntKind.wrap .i64 (((4 * n : Nat) : Int) + 1) = ((4 * n + 1 : Nat) : Int) := (w64 (by omega) (by omega)).trans (by omega)
        have f2 : IntKind.wrap .i64 (((4 * n : Nat) : Int) + 2) = ((4 * n + 2 : Nat) : Int) := (w64 (by omega) (by omega)).trans (by omega)
        have f3 : IntKind.wrap .i64 (((4 * n : Nat) : Int) + 3) = ((4 * n + 3 : Nat) : Int) := (w64 (by omega) (by omega)).trans (by omega)
        generalize impl_sha256Of_W14 20000000 K10 m = F at hx ⊢
        generalize impl_sha256Of_W23 20000000 K10 20000000 = F2
        rw [sched_lt h16] at hx
        unfold impl_sha256Of_T14
        dsimp only
        rw [e0, f1, f2, f3, e1, hlen, decide_eq_true (show (n : Int) < 64 by omega), decide_eq_true (show (n : Int) < 16 by omega), decide_eq_true (show (0 : Int) ≤ ((4 * n : Nat) : Int) by omega), decide_eq_true (show ((4 * n : Nat) : Int) < (b.length : Int) by omega), decide_eq_true (show (0 : Int) ≤ ((4 * n + 1 : Nat) : Int) by omega), decide_eq_true (show ((4 * n + 1 : Nat) : Int) < (b.length : Int) by omega), decide_eq_true (show (0 : Int) ≤ ((4 * n + 2 : Nat) : Int) by omega), decide_eq_true (show ((4 * n + 2 : Nat) : Int) < (b.length : Int) by omega), decide_eq_true (show (0 : Int) ≤ ((4 * n + 3 : Nat) : Int) by omega), decide_eq_true (show ((4 * n + 3 : Nat) : Int) < (b.length : Int) by omega), decide_eq_true (show 64 ≤ 64 by omega), decide_eq_true (show (0 : Int) ≤ (n : Int) by omega), toNat_nat, toNat_nat, toNat_nat, toNat_nat, toNat_nat, hk, set_next _ _ _ hsl]
        simp only [fold_or, fold_shl, cond_true]
        exact hx
      · have e15 : IntKind.wrap .i64 ((n : Int) - 15) = ((n - 15 : Nat) : Int) := (w64 (by omega) (by omega)).trans (by omega)
        have e2 : IntKind.wrap .i64 ((n : Int) - 2) = ((n - 2 : Nat) : Int) := (w64 (by omega) (by omega)).trans (by omega)
        have e16 : IntKind.wrap .i64 ((n : Int) - 16) = ((n - 16 : Nat) : Int) := (w64 (by omega) (by omega)).trans (by omega)
        have e7 : IntKind.wrap .i64 ((n : Int) - 7) = ((n - 7 : Nat) : Int) := (w64 (by omega) (by omega)).trans (by omega)
        generalize impl_sha256Of_W14 20000000 K10 m = F at hx ⊢
        generalize impl_sha256Of_W23 20000000 K10 20000000 = F2
        rw [sched_ge h16] at hx
        unfold impl_sha256Of_T14
        dsimp only
        rw [e15, e2, e16, e7, e1, hlen, decide_eq_true (show (n : Int) < 64 by omega), decide_eq_false (show ¬ (n : Int) < 16 by omega), decide_eq_true (show 64 ≤ 64 by omega), decide_eq_true (show (0 : Int) ≤ ((n - 15 : Nat) : Int) by omega), decide_eq_true (show ((n - 15 : Nat) : Int) < 64 by omega), decide_eq_true (show (0 : Int) ≤ ((n - 2 : Nat) : Int) by omega), decide_eq_true (show ((n - 2 : Nat) : Int) < 64 by omega), decide_eq_true (show (0 : Int) ≤ ((n - 16 : Nat) : Int) by omega), decide_eq_true (show ((n - 16 : Nat) : Int) < 64 by omega), decide_eq_true (show (0 : Int) ≤ ((n - 7 : Nat) : Int) by omega), decide_eq_true (show ((n - 7 : Nat) : Int) < 64 by omega), decide_eq_true (show (0 : Int) ≤ (n : Int) by omega), toNat_nat, toNat_nat, toNat_nat, toNat_nat, toNat_nat, getD_left _ _ (show n - 16 < (sched b n).length by omega), getD_left _ _ (show n - 7 < (sched b n).length by omega), getD_left _ _ (show n - 15 < (sched b n).length by omega), getD_left _ _ (show n - 2 < (sched b n).length by omega), hk]
        simp only [fold_xor, fold_shr, fold_add, cond_true, cond_false]
        rw [set_next _ _ _ hsl, addW_swap]
        exact hx
    · have : n = 64 := by omega
      subst this
      have he := impl_rounds K10 hb (sched_len b 64) hh 20000000 0 (by omega) (by omega)
      generalize impl_sha256Of_W23 20000000 K10 20000000 = F at he ⊢
      generalize impl_sha256Of_W14 20000000 K10 m = F2
      unfold impl_sha256Of_T14
      dsimp only
      rw [decide_eq_false (show ¬ (((64 : Nat) : Int) < 64) by omega), cond_false, hh, decide_eq_true (show 8 ≤ 8 by omega), cond_true, Nat.sub_self, List.replicate_zero, List.append_nil]
      obtain ⟨h0, h1, h2, h3, h4, h5, h6, h7, rfl⟩ := eight hh
      exact he
theorem impl_block (K10 : impl_sha256Of_X10 → Rs) {b h : List Int} (hb : 64 ≤ b.length) (hh : h.length = 8) :
    impl_sha256Of_W14 20000000 K10 20000000 (0, b, zero64, h) = K10 (b.drop 64, blkW h (b.take 64)) := by
  have := impl_words K10 hb hh 20000000 0 (by omega) (by omega)
  unfold blkW
  rw [sched_take]
  exact this
theorem impl_out (a0 a1 a2 a3 a4 a5 a6 a7 : Int) : impl_sha256Of_W37 20000000 20000000 (0, a0, a1, a2, a3, a4, a5, a6, a7, []) = some ([T (strOf (outW [a0, a1, a2, a3, a4, a5, a6, a7]))], []) := by kernel_rfl
theorem impl_blocks : ∀ (m q : Nat) (b h : List Int), b.length = 64 * q → h.length = 8 → q < m → impl_sha256Of_W10 20000000 m (b, h) = some ([T (strOf (outW (blksW q h b)))], []) := by
  intro m
  induction m with
  | zero => intro q _ _ _ _ hm; omega
  | succ m ih =>
    intro q b h hb hh hm
    show impl_sha256Of_T10 (impl_sha256Of_W14 20000000 (impl_sha256Of_W10 20000000 m) 20000000) (impl_sha256Of_W37 20000000 20000000) (b, h) = _
    cases q with
    | zero =>
      have hb0 : b = [] := List.eq_nil_of_length_eq_zero (by omega)
      subst hb0
      obtain ⟨a0, a1, a2, a3, a4, a5, a6, a7, rfl⟩ := eight hh
      have he := impl_out a0 a1 a2 a3 a4 a5 a6 a7
      generalize impl_sha256Of_W37 20000000 20000000 = F at he ⊢
      exact he
    | succ q =>
      have he := impl_block (impl_sha256Of_W10 20000000 m) (b := b) (h := h) (by omega) hh
      have hx := ih q (b.drop 64) (blkW h (b.take 64)) (by rw [List.length_drop]; omega) rfl (by omega)
      rw [hx] at he
      generalize impl_sha256Of_W14 20000000 (impl_sha256Of_W10 20000000 m) 20000000 = F at he ⊢
      unfold impl_sha256Of_T10
      dsimp only
      rw [decide_eq_true (show (b.length : Int) > 0 by omega), cond_true]
      exact he
theorem K_impl_sha256Of : Sound1 Tryd.prog EKs F_impl_sha256Of.f S_impl_sha256Of := snd ok_impl_sha256Of [(F_impl_rolled.f, S_impl_rolled)] (tabF_cons K_impl_rolled (tabF_nil _ _)) fun args sp h hp => by
  unfold S_impl_sha256Of S_spec_l1Sum at h
  split at h
  · rename_i s
    cases h
    have hm : s.size < 1000000000 := of_decide_eq_true hp
    refine ⟨rfl, 20000000, (impl_sha256Of_run _ _).trans ?_⟩
    unfold impl_sha256Of_T
    rw [decide_eq_true (show s.size < 1099511627776 by omega), decide_eq_true (show (bytesL s).length + 1 < 1099511627776 by rw [bytesL_len]; omega)]
    have hpn : padN s.size ≤ 63 := by unfold padN; omega
    obtain ⟨pl1, pl2, pl3⟩ := padL_len s
    have hend := impl_blocks 20000000 ((padL s).length / 64) (padL s) shaH (by omega) rfl (by omega)
    have key : ∀ (m j : Nat), j ≤ padN s.size → padN s.size - j < m → impl_sha256Of_W3 20000000 m (s, bytesL s ++ [128] ++ List.replicate j 0, shaH) = some ([T (sumS s)], []) := by
      intro m
      induction m with
      | zero => intro j _ hm; omega
      | succ m ih =>
        intro j hj hm'
        show impl_sha256Of_T3 (impl_sha256Of_W3 20000000 m) (impl_sha256Of_W7 20000000 20000000) (s, bytesL s ++ [128] ++ List.replicate j 0, shaH) = _
        obtain ⟨p1, p2⟩ := pad_step s.size j hj
        by_cases hq : (s.size + 1 + j) % 64 = 56
        · have e8 : IntKind.wrap .u64 (IntKind.wrap .u64 (s.size : Int) * 8) = (s.size : Int) * 8 := by
            have q1 : ∀ x : Int, IntKind.wrap .u64 x = x % 18446744073709551616 := fun _ => rfl
            rw [q1, q1]; omega
          have hj' := p2 hq
          subst hj'
          have hpad : padL s = bytesL s ++ [128] ++ List.replicate (padN s.size) 0 ++ padE ((s.size : Int) * 8) := rfl
          rw [hpad] at hend
          unfold sumS
          rw [hpad]
          generalize hX : bytesL s ++ [128] ++ List.replicate (padN s.size) 0 = X at hend ⊢
          have hXl : X.length ≤ s.size + 64 := by
            rw [← hX]
            simp only [List.length_append, bytesL_len, List.length_cons, List.length_nil, List.length_replicate]
            omega
          have hgo : ∀ (K10 : impl_sha256Of_X10 → Rs) (n : Int), impl_sha256Of_W7 20000000 20000000 (56, n, X, shaH) = impl_sha256Of_W10 20000000 20000000 (X ++ padE n, shaH) := by
            intro _ n
            have l8 : ∀ i : Nat, i ≤ 8 → (X ++ (padE n).take i).length + 1 < 1099511627776 := fun i hi => by
              rw [List.length_append, List.length_take]; omega
            have step : ∀ (i : Nat), i ≤ 7 → ∀ mm, impl_sha256Of_W7 20000000 (mm + 1) (((8 * (7 - i) : Nat) : Int), n, X ++ (padE n).take i, shaH) = impl_sha256Of_W7 20000000 mm (((8 * (7 - i) : Nat) : Int) - 8, n, X ++ (padE n).take (i + 1), shaH) := by
              intro i hi mm
              show impl_sha256Of_T7 (impl_sha256Of_W7 20000000 mm) (impl_sha256Of_W10 20000000 20000000) (((8 * (7 - i) : Nat) : Int), n, X ++ (padE n).take i, shaH) = _
              generalize impl_sha256Of_W7 20000000 mm = F
              generalize impl_sha256Of_W10 20000000 20000000 = F2
              unfold impl_sha256Of_T7
              dsimp only
              have e2 : IntKind.wrap .i64 (((8 * (7 - i) : Nat) : Int) - 8) = ((8 * (7 - i) : Nat) : Int) - 8 := w64 (by omega) (by omega)
              rw [e2, decide_eq_true (show ((8 * (7 - i) : Nat) : Int) ≥ 0 by omega), decide_eq_true (l8 i (by omega)), cond_true, cond_true, cond_true, padE_go, ← List.append_assoc, toNat_nat]
              congr 1
              have hi8 : i = 0 ∨ i = 1 ∨ i = 2 ∨ i = 3 ∨ i = 4 ∨ i = 5 ∨ i = 6 ∨ i = 7 := by omega
              rcases hi8 with rfl | rfl | rfl | rfl | rfl | rfl | rfl | rfl <;> rfl
            have e0 : ((X ++ (padE n).take 0) : List Int) = X := by simp
            have s0 := step 0 (by omega) 19999999
            rw [e0] at s0
            have hstop : ∀ mm (Y : List Int), impl_sha256Of_W7 20000000 (mm + 1) (((8 * (7 - 7) : Nat) : Int) - 8, n, Y, shaH) = impl_sha256Of_W10 20000000 20000000 (Y, shaH) := by
              intro mm Y
              show impl_sha256Of_T7 (impl_sha256Of_W7 20000000 mm) (impl_sha256Of_W10 20000000 20000000) (((8 * (7 - 7) : Nat) : Int) - 8, n, Y, shaH) = _
              generalize impl_sha256Of_W7 20000000 mm = F
              generalize impl_sha256Of_W10 20000000 20000000 = F2
              rfl
            have t8 : (padE n).take 8 = padE n := rfl
            have s7 := hstop 19999991 (X ++ (padE n).take 8)
            rw [t8] at s7
            exact s0.trans ((step 1 (by omega) 19999998).trans ((step 2 (by omega) 19999997).trans ((step 3 (by omega) 19999996).trans ((step 4 (by omega) 19999995).trans ((step 5 (by omega) 19999994).trans ((step 6 (by omega) 19999993).trans ((step 7 (by omega) 19999992).trans s7)))))))
          have hgo' := (hgo (fun _ => none) ((s.size : Int) * 8)).trans hend
          rw [← hX] at hgo' ⊢
          generalize impl_sha256Of_W7 20000000 20000000 = F at hgo' ⊢
          generalize impl_sha256Of_W3 20000000 m = F2
          unfold impl_sha256Of_T3
          dsimp only
          rw [pad_more, decide_eq_false (by omega), cond_false, e8]
          exact hgo'
        · have hx := ih (j + 1) (by have := p1 hq; omega) (by have := p1 hq; omega)
          generalize impl_sha256Of_W7 20000000 20000000 = F
          generalize impl_sha256Of_W3 20000000 m = F2 at hx ⊢
          unfold impl_sha256Of_T3
          dsimp only
          rw [pad_more, decide_eq_true hq, cond_true]
          have hlen : (bytesL s ++ [128] ++ List.replicate j 0).length + 1 < 1099511627776 := by
            simp only [List.length_append, bytesL_len, List.length_cons, List.length_nil, List.length_replicate]; omega
          rw [decide_eq_true hlen, cond_true]
          rw [List.replicate_succ', ← List.append_assoc] at hx
          exact hx
    have hk := key 20000000 0 (Nat.zero_le _) (by omega)
    rw [List.replicate_zero, List.append_nil] at hk
    rw [cond_true, cond_true]
    exact hk
  · cases h
end Go.Proofs.YtbgheffgkncpgaaDoor.V
