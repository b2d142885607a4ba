/- What functions come to, and that they do so; conditions: those that each theorem states. -/
import Derived.Test.YtbgheffgkncpgaaKcM2G
set_option linter.unusedVariables false
set_option linter.unusedSimpArgs false
namespace Go.Proofs.Ytbgheffgkncpgaa.V
open Go Vx Vx.N
/-! ### The law -/
noncomputable def S_laws_FnSolverSays : List DA → Option Sp
  | [.c (.row (.ints .u8 a)), .c (.row (.ints .u8 b))] => some ⟨byOk a && byOk b, [B true], [], .fresh⟩
  | _ => none
theorem saysR_ok {b : List Int} (h : byOk b = true) : smE (saysR b).2.2.1 = true ∧ sm (saysR b).2.2.2.length = true := by
  have h0 := byOk_rd h
  obtain ⟨a1, a2, a3, _⟩ := any_ok h0 (by omega)
  obtain ⟨_, t2, _⟩ := truthD_ok h0 (by omega)
  refine ⟨a1, decide_eq_true ?_⟩
  have := badRowD_len (b.take 2000) (anyR (b.take 2000) 0).2.2.2 (truthD (b.take 2000) 0).length
  show (badRowD _ _ _).length < _
  omega
theorem blockXor_eq {a b : ByteArray} {z : Nat} (h1 : a.size = z) (h2 : b.size = z) (hz : z ≤ 16) : blockXorR a b = (xorB a b, true) := by
  rw [blockXorR_eq, if_pos ⟨by omega, by omega⟩]
theorem K_laws_FnSolverSays : Sound1 Try.prog EKs F_laws_FnSolverSays.f S_laws_FnSolverSays := snd ok_laws_FnSolverSays [(F_spec_DrawSolverSays.f, S_spec_DrawSolverSays), (F_impl_SolverSays.f, S_impl_SolverSays), (F_spec_SolverSays.f, S_spec_SolverSays), (F_impl_RowXor.f, S_impl_RowXor), (F_impl_RowOk.f, S_impl_RowOk), (F_impl_BlockXor.f, S_impl_BlockXor)] (tabF_cons K_spec_DrawSolverSays (tabF_cons K_impl_SolverSays (tabF_cons K_spec_SolverSays (tabF_cons K_impl_RowXor (tabF_cons K_impl_RowOk (tabF_cons K_impl_BlockXor (tabF_nil _ _)))))) ) fun args sp h hp => by
  unfold S_laws_FnSolverSays at h
  split at h
  · rename_i code more
    cases h
    simp only [Bool.and_eq_true] at hp
    obtain ⟨p1, p2⟩ := hp
    obtain ⟨q1, q2⟩ := saysR_ok p1
    obtain ⟨_, q3⟩ := saysR_ok p2
    refine ⟨rfl, 0, (laws_FnSolverSays_run _ _ _).trans ?_⟩
    unfold laws_FnSolverSays_T
    by_cases l1 : (code.length : Int) > 1048576
    · rw [decide_eq_true l1]; rfl
    by_cases l2 : (more.length : Int) > 1048576
    · rw [decide_eq_false l1, decide_eq_true l2]; rfl
    rw [decide_eq_false l1, decide_eq_false l2, p1, p2, q1, q2, q3]
    generalize (saysR more).2.2.2 = other at q3 ⊢
    generalize (saysR code).1 = c at *
    generalize (saysR code).2.1 = z at *
    generalize (saysR code).2.2.1 = es at *
    generalize (saysR code).2.2.2 = row at *
    simp only [ba_toList_eq, cond_false, cond_true, Bool.and_self, decide_true, Bool.not_true, beq_self_eq_true, Bool.true_and]
    cases hs : (saysE c z es row).2 with
    | false => rfl
    | true =>
      obtain ⟨hS, hr, hrd⟩ := says_f hs
      have A := sol_of hS
      have v1 := eq0 hS.2.1 hr
      have h24 := rowP_short hr
      simp only [Bool.not_true, cond_false]
      cases ho : (saysE c z es other).2 with
      | false =>
        by_cases hro : RowP other c
        · have hx : (saysE c z es (rowXorR row other)).2 = false := by
            cases hx : (saysE c z es (rowXorR row other)).2 with
            | false => rfl
            | true =>
              exfalso
              rw [rowXorR_eq hr hro] at hx
              obtain ⟨_, hrx, hrd2⟩ := says_f hx
              have v2 := eq0 hS.2.1 hro
              rw [says_lin hS hr hro, hrd] at hrd2
              have e1 : (red es (other, zerosB z.toNat)).1 = [] := by
                have := congrArg Prod.fst hrd2
                have e2 : xorL [] (red es (other, zerosB z.toNat)).1 = [] := this
                rwa [xorL_nil_left] at e2
              have := says_t hS hro (d := (red es (other, zerosB z.toNat)).2) (Prod.ext e1 rfl)
              rw [this] at ho; cases ho
          have hsm : sm (rowXorR row other).length = true := by
            rw [rowXorR_eq hr hro]
            have := rowP_short (xor_rows hr hro)
            exact decide_eq_true (by omega)
          rw [hsm, hx, decide_eq_true hro]; rfl
        · have hsm : sm (rowXorR row other).length = true := by
            unfold rowXorR
            split
            · rename_i hd
              have hd := of_decide_eq_true hd
              have := rowP_short (xor_rows hd.1 hd.2)
              exact decide_eq_true (by omega)
            · rfl
          rw [hsm, decide_eq_false hro]; rfl
      | true =>
        obtain ⟨_, hro, hrd2⟩ := says_f ho
        have hsm : sm (rowXorR row other).length = true := by
          rw [rowXorR_eq hr hro]
          have := rowP_short (xor_rows hr hro)
          exact decide_eq_true (by omega)
        have v2 := eq0 hS.2.1 hro
        have hlin := says_lin hS hr hro
        rw [hrd, hrd2] at hlin
        have hx := says_t hS (xor_rows hr hro) (d := xorB (saysE c z es row).1 (saysE c z es other).1) (hlin.trans (Prod.ext (xorL_nil_left _) rfl))
        have s1 := (red_ok A.e v1).t
        have s2 := (red_ok A.e v2).t
        rw [hrd] at s1
        rw [hrd2] at s2
        have hz := hS.2.1
        have hb := blockXor_eq (a := (saysE c z es row).1) (b := (saysE c z es other).1) (z := z.toNat) (by have : ((saysE c z es row).1.size : Int) = z := s1; omega) (by have : ((saysE c z es other).1.size : Int) = z := s2; omega) (by omega)
        rw [hsm, rowXorR_eq hr hro, hx, hb]
        simp
  · cases h
end Go.Proofs.Ytbgheffgkncpgaa.V
