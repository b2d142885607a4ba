/- What functions come to, and that they do so; conditions: those that each theorem states. -/
import Derived.Test.YtbolcmcjniiieaaKdM3G
set_option linter.unusedVariables false
set_option linter.unusedSimpArgs false
namespace Go.Proofs.Ytbolcmcjniiieaa.V
open Go Vx Vx.N
/-! ### The law -/
noncomputable def S_laws_FnSolverAdd : List DA → Option Sp
  | [.c (.row (.ints .u8 a))] => some ⟨byOk a, [B true], [], .fresh⟩
  | _ => none
structure AddF (c z : Int) (es : List Eqn) (row : List Int) (t : ByteArray) (es2 : List Eqn) (k : Int) : Prop where
  s1 : (saysE c z es row).2 = (k != 0)
  s2 : (saysE c z es2 row).2 = true
  s3 : k = 2 → (saysE c z es row).1 ≠ t ∧ (saysE c z es2 row).1 = (saysE c z es row).1
  s4 : k ≠ 2 → (saysE c z es2 row).1 = t
  s5 : ∀ f ∈ es, saysE c z es2 f.1 = (f.2, true)
  s6 : SolverP c z es2
  s7 : (es2.length : Int) = if k = 0 then (es.length : Int) + 1 else es.length
theorem addF_of {c z : Int} {es : List Eqn} {row : List Int} {t : ByteArray} (hS : SolverP c z es) (hr : RowP row c) (ht : (t.size : Int) = z) : AddF c z es row t (addE z es row t).1 (addE z es row t).2 := by
  have A := sol_of hS
  have hv : EqP c z (row, t) := ⟨hr, ht⟩
  have hS2 := add_ok hS hr ht
  have h0 := eq0 hS.2.1 hr
  have hre := red_ok A.e h0
  have hsp := red_split hS hr ht
  have hin : ∀ f ∈ es, saysE c z es f.1 = (f.2, true) := fun f hf => (says_span hS (A.mm f hf).r (A.mm f hf).t).2 (.mem A.hc A.hz A.mm hf)
  have hrow : (red es (row, t)).1 = (red es (row, zerosB z.toNat)).1 := by rw [hsp]; exact xorL_nil_right _
  have hno : (red es (row, zerosB z.toNat)).1 = [] → saysE c z es row = ((red es (row, zerosB z.toNat)).2, true) := fun h => says_t hS hr (Prod.ext h rfl)
  rcases addE_cases z es row t with ⟨h1, h2, e⟩ | ⟨h1, h2, e⟩ | ⟨h1, e⟩
  · rw [e] at hS2 ⊢
    have hs := (says_span hS hr ht).2 ((A.ker hv).2 (Prod.ext h1 h2))
    exact ⟨by rw [hs]; rfl, by rw [hs], fun h => (by cases h), fun _ => (by rw [hs]), hin, hS, rfl⟩
  · rw [e] at hS2 ⊢
    have hs := hno (by rw [← hrow]; exact h1)
    refine ⟨by rw [hs]; rfl, by rw [hs], fun _ => ⟨fun h => h2 ?_, rfl⟩, fun h => absurd rfl h, hin, hS, rfl⟩
    rw [hs] at h
    rw [hsp]
    show xorB (red es (row, zerosB z.toNat)).2 t = _
    have h : (red es (row, zerosB z.toNat)).2 = t := h
    rw [h, xorB_self]
    congr 1
    omega
  · have hne : (addE z es row t).2 ≠ 2 := by rw [e]; simp
    have hsv := (add_span hS hr ht hne hv).2 (.inr (by rw [ad_self hv]; exact .zero))
    have hs := (says_span hS2 hr ht).2 hsv
    refine ⟨?_, by rw [hs], fun h => absurd h (by rw [e]; simp), fun _ => by rw [hs], fun f hf => ?_, hS2, ?_⟩
    · cases hq : (saysE c z es row).2 with
      | false => rw [e]; rfl
      | true =>
        obtain ⟨_, _, h3⟩ := says_f hq
        exact absurd (hrow.trans (congrArg Prod.fst h3)) h1
    · exact (says_span hS2 (A.mm f hf).r (A.mm f hf).t).2 ((add_span hS hr ht hne (A.mm f hf)).2 (.inl (.mem A.hc A.hz A.mm hf)))
    · have := (add_len hS row t).1 (by rw [e])
      rw [this, e]
      show ((es.length + 1 : Nat) : Int) = _
      rw [if_pos rfl]; omega
theorem K_laws_FnSolverAdd : Sound1 Try.prog EKs F_laws_FnSolverAdd.f S_laws_FnSolverAdd := snd ok_laws_FnSolverAdd [(F_spec_DrawSolverAdd.f, S_spec_DrawSolverAdd), (F_impl_SolverAdd.f, S_impl_SolverAdd), (F_spec_SolverAdd.f, S_spec_SolverAdd), (F_laws_whSolver.f, S_laws_whSolver), (F_impl_SolverSays.f, S_impl_SolverSays), (F_impl_SolverRank.f, S_impl_SolverRank), (F_impl_SolverOk.f, S_impl_SolverOk)]
    (tabF_cons K_spec_DrawSolverAdd (tabF_cons K_impl_SolverAdd (tabF_cons K_spec_SolverAdd (tabF_cons K_laws_whSolver (tabF_cons K_impl_SolverSays (tabF_cons K_impl_SolverRank (tabF_cons K_impl_SolverOk (tabF_nil _ _)))))))) fun args sp h hp => by
  unfold S_laws_FnSolverAdd at h
  split at h
  · rename_i code
    cases h
    have p1 : byOk code = true := hp
    obtain ⟨_, q1, q2⟩ := drawAdd_ok p1
    refine ⟨rfl, (drawAdd code).2.2.1.length + 1, (laws_FnSolverAdd_run _ _).trans ?_⟩
    unfold laws_FnSolverAdd_T
    by_cases l1 : (code.length : Int) > 1048576
    · rw [decide_eq_true l1]; rfl
    rw [decide_eq_false l1, p1, q1, q2]
    have q3 := addS_sm (c := (drawAdd code).1) (z := (drawAdd code).2.1) (row := (drawAdd code).2.2.2.1) (t := (drawAdd code).2.2.2.2) q1
    rw [q3]
    generalize (drawAdd code).1 = c at *
    generalize (drawAdd code).2.1 = z at *
    generalize (drawAdd code).2.2.1 = es at *
    generalize (drawAdd code).2.2.2.1 = row at *
    generalize (drawAdd code).2.2.2.2 = t at *
    simp only [ba_toList_eq, cond_false, cond_true, Bool.and_self, decide_true, Bool.not_true, beq_self_eq_true, bne_self_eq_false, Bool.true_and]
    by_cases hk3 : (addS c z es row t).2.2.2 = 3
    · rw [hk3]; rfl
    obtain ⟨hS, hr, ht, e⟩ := addS_ok hk3
    have hF := addF_of hS hr ht
    rw [e] at hk3 q3 ⊢
    simp only at hk3 q3 ⊢
    generalize (addE z es row t).1 = es2 at *
    generalize (addE z es row t).2 = k at *
    rw [beq_eq_false_iff_ne.2 hk3, hF.s1, hF.s2]
    have hloop : laws_FnSolverAdd_W13 (es.length + 1) (es.length + 1) (0, k, c, z, es2, c, z, es) = some ([B true], []) := by
      refine fix8 (T := fun k => laws_FnSolverAdd_T13 k) (fun i k' a1 a2 a3 b1 b2 b3 => (k' = k ∧ a1 = c ∧ a2 = z ∧ a3 = es2 ∧ b1 = c ∧ b2 = z ∧ b3 = es) ∧ 0 ≤ i ∧ i ≤ es.length) (fun i _ _ _ _ _ _ _ => es.length - i.toNat) (fun _ _ _ _ _ _ _ _ => ([B true], [])) ?_ _ _ _ _ _ _ _ _ _ ⟨⟨rfl, rfl, rfl, rfl, rfl, rfl, rfl⟩, by omega, by omega⟩ (by omega)
      rintro i k' a1 a2 a3 b1 b2 b3 K ⟨⟨rfl, rfl, rfl, rfl, rfl, rfl, rfl⟩, q0, q1'⟩ hK
      unfold laws_FnSolverAdd_T13
      simp only [ba_toList_eq]
      by_cases hi : i < b3.length
      · have hlt : i.toNat < b3.length := by omega
        have hf := getE_mem hlt
        have hs := hF.s5 _ hf
        have hsl : sm (b3.getD i.toNat eqD).1.length = true := by
          have := rowP_short (solver_mem hS hf).1
          exact decide_eq_true (by omega)
        rw [decide_eq_true hi, decide_eq_true q0, q3, hsl, hs, w64i q0 (by have := solver_len hS; omega)]
        simp only [cond_true, Bool.and_self, Bool.not_true, cond_false, decide_true]
        exact hK _ _ _ _ _ _ _ _ ⟨⟨rfl, rfl, rfl, rfl, rfl, rfl, rfl⟩, by omega, by omega⟩ (by omega)
      · have hr1 : rankS b1 b2 b3 = b3.length := by unfold rankS; rw [solvB_iff.2 hS]
        have hr2 : rankS b1 b2 a3 = a3.length := by unfold rankS; rw [solvB_iff.2 hF.s6]
        have hl1 := (pref_ok hS).2.2.2.2.2
        have hl2 := (pref_ok hF.s6).2.2.2.2.2
        have h7 := hF.s7
        have hle := solver_len hS
        rw [decide_eq_false hi, hr1, hr2, q1, q3, solvB_iff.2 hF.s6]
        simp only [cond_true, cond_false]
        by_cases hk : k' = 0
        · rw [if_pos hk] at h7
          rw [hk, w64 (by omega) (by omega), h7]
          have : decide ((b3.length : Int) + 1 ≤ b1) = true := decide_eq_true (by omega)
          simp [this]
        · rw [if_neg hk] at h7
          have : decide ((b3.length : Int) ≤ b1) = true := decide_eq_true hl1
          have hb : (k' == 0) = false := beq_eq_false_iff_ne.2 hk
          simp [hb, h7, this]
    rw [hloop]
    by_cases hk2 : k = 2
    · obtain ⟨e1, e2⟩ := hF.s3 hk2
      rw [e2]
      simp [hk2, e1]
    · have e1 := hF.s4 hk2
      have hb : (k == 2) = false := beq_eq_false_iff_ne.2 hk2
      rw [e1]
      simp [hb]
  · cases h
end Go.Proofs.Ytbolcmcjniiieaa.V
