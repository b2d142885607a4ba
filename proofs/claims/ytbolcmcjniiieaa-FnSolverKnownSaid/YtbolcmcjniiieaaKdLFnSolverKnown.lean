/- What functions come to, and that they do so; conditions: those that each theorem states. -/
import Derived.Test.YtbolcmcjniiieaaKdM3G
set_option linter.unusedVariables false
set_option linter.unusedSimpArgs false
namespace Go.Proofs.Ytbolcmcjniiieaa.V
open Go Vx Vx.N
/-! ### The law -/
noncomputable def S_laws_FnSolverKnown : List DA → Option Sp
  | [.c (.row (.ints .u8 a))] => some ⟨byOk a, [B true], [], .fresh⟩
  | _ => none
theorem drop_solver {c z : Int} {es : List Eqn} (hS : SolverP c z es) (i : Nat) : SolverP c z (es.drop i) := by
  have L := solverL_of hS
  refine SolverL.p ⟨L.hc, L.hz, fun f hf => L.m f (List.mem_of_mem_drop hf), ?_, L.s.sublist (List.drop_sublist _ _)⟩
  rw [List.map_drop]
  exact L.a.sublist (List.drop_sublist _ _)
/-- The first equation told to the others. -/
theorem known_new {c z : Int} {e : Eqn} {es : List Eqn} (hS : SolverP c z (e :: es)) : addE z es e.1 e.2 = (e :: es, 0) ∧ addE z (e :: es) e.1 e.2 = (e :: es, 1) := by
  have hS' : SolverP c z es := drop_solver hS 1
  have hE := (esP_of hS).head
  have hm := (esP_of hS).m e List.mem_cons_self
  have A := sol_of hS
  constructor
  · have hid : red es (e.1, e.2) = e := red_id fun f hf => (hE.2.2 f hf).2
    rcases addE_cases z es e.1 e.2 with ⟨h1, _, _⟩ | ⟨h1, _, _⟩ | ⟨_, h⟩
    · rw [hid] at h1; exact absurd h1 hm.2
    · rw [hid] at h1; exact absurd h1 hm.2
    · rw [h, hid]
      have hcl : es.map (clearE e) = es := by
        rw [List.map_congr_left (g := id) fun f hf => ?_, List.map_id]
        rw [clearE_eq, if_neg (hE.2.2 f hf).1]; rfl
      unfold learnE
      rw [hcl]
      cases es with
      | nil => rfl
      | cons f fs =>
        have ha := asc_piv hS
        rw [List.map_cons, List.map_cons, List.pairwise_cons] at ha
        rw [putE_cons, if_pos (ha.1 _ List.mem_cons_self)]
  · have hk : red (e :: es) (e.1, e.2) = zr z := (A.ker hE.1).1 (.mem A.hc A.hz A.mm List.mem_cons_self)
    rcases addE_cases z (e :: es) e.1 e.2 with ⟨_, _, h⟩ | ⟨_, h2, _⟩ | ⟨h1, _⟩
    · exact h
    · rw [hk] at h2; exact absurd rfl h2
    · rw [hk] at h1; exact absurd rfl h1
theorem K_laws_FnSolverKnown : Sound1 Try.prog EKs F_laws_FnSolverKnown.f S_laws_FnSolverKnown := snd ok_laws_FnSolverKnown [(F_spec_DrawSolverOk.f, S_spec_DrawSolverOk), (F_impl_SolverOk.f, S_impl_SolverOk), (F_spec_SolverOk.f, S_spec_SolverOk), (F_impl_SolverRank.f, S_impl_SolverRank), (F_impl_SolverPrefix.f, S_impl_SolverPrefix), (F_impl_SolverNew.f, S_impl_SolverNew), (F_spec_SolverNew.f, S_spec_SolverNew), (F_laws_whSolver.f, S_laws_whSolver), (F_impl_SolverAdd.f, S_impl_SolverAdd)]
    (tabF_cons K_spec_DrawSolverOk (tabF_cons K_impl_SolverOk (tabF_cons K_spec_SolverOk (tabF_cons K_impl_SolverRank (tabF_cons K_impl_SolverPrefix (tabF_cons K_impl_SolverNew (tabF_cons K_spec_SolverNew (tabF_cons K_laws_whSolver (tabF_cons K_impl_SolverAdd (tabF_nil _ _)))))))))) fun args sp h hp => by
  unfold S_laws_FnSolverKnown at h
  split at h
  · rename_i code
    cases h
    have p1 : byOk code = true := hp
    have q1 := drawOk_sm p1
    refine ⟨rfl, 26, (laws_FnSolverKnown_run _ _).trans ?_⟩
    unfold laws_FnSolverKnown_T
    by_cases l1 : (code.length : Int) > 1048576
    · rw [decide_eq_true l1]; rfl
    rw [decide_eq_false l1, p1, q1]
    generalize (drawOk code).1 = c at *
    generalize (drawOk code).2.1 = z at *
    generalize (drawOk code).2.2.1 = es at *
    simp only [cond_false, cond_true, decide_true, Bool.not_true, beq_self_eq_true]
    cases hs : solvB c z es with
    | false => unfold rankS prefS; rw [hs]; rfl
    | true =>
      have hS := solvB_iff.1 hs
      have hle := solver_len hS
      rw [decide_eq_true ⟨hS.1, hS.2.1⟩, w64 (by omega) (by omega)]
      simp only [Bool.not_true, cond_false, cond_true]
      have e0 : es.drop ((es.length : Int) - 1 + 1).toNat = [] := List.drop_eq_nil_of_le (by omega)
      rw [← e0]
      refine fix7 (T := fun k => laws_FnSolverKnown_T12 k) (fun i c1 z1 x c2 z2 es' => (c1 = c ∧ z1 = z ∧ c2 = c ∧ z2 = z ∧ es' = es) ∧ (-1 ≤ i ∧ i < es.length) ∧ x = es.drop (i + 1).toNat) (fun i _ _ _ _ _ _ => (i + 1).toNat) (fun _ _ _ _ _ _ _ => ([B true], [])) ?_ _ _ _ _ _ _ _ _ ⟨⟨rfl, rfl, rfl, rfl, rfl⟩, ⟨by omega, by omega⟩, rfl⟩ (by omega)
      intro i c1 z1 x c2 z2 es' K hI hK
      obtain ⟨⟨e1, e2, e3, e4, e5⟩, ⟨q0, q1'⟩, hx⟩ := hI
      rw [e1, e2, e3, e4, e5]
      unfold laws_FnSolverKnown_T12
      dsimp only
      by_cases hi : i ≥ 0
      · have hlt : i.toNat < es.length := by omega
        have hdr : es.drop i.toNat = es.getD i.toNat eqD :: x := by
          rw [hx, show (i + 1).toNat = i.toNat + 1 by omega, getD_lt hlt]
          exact List.drop_eq_getElem_cons hlt
        have hSi := drop_solver hS i.toNat
        rw [hdr] at hSi
        have hSx : SolverP c z x := by have := drop_solver hSi 1; exact this
        obtain ⟨k1, k2⟩ := known_new hSi
        have hm := solver_mem hSi List.mem_cons_self
        generalize he : es.getD i.toNat eqD = e at *
        have hsl : sm e.1.length = true := by have := rowP_short hm.1; exact decide_eq_true (by omega)
        rw [decide_eq_true hi, decide_eq_true q1', solver_sm hSx, hsl, addS_is hSx hm.1 hm.2.2, k1]
        simp only [cond_true, cond_false, Bool.and_self]
        rw [solver_sm hSi, addS_is hSi hm.1 hm.2.2, k2, w64 (by omega) (by omega)]
        simp only [cond_true, cond_false, Bool.and_self, decide_true, Bool.not_true, bne_self_eq_false]
        refine hK _ _ _ _ _ _ _ ⟨⟨rfl, rfl, rfl, rfl, rfl⟩, ⟨by omega, by omega⟩, ?_⟩ (by omega)
        rw [show (i - 1 + 1).toNat = i.toNat by omega, hdr]
      · have hx0 : x = es := by rw [hx, show (i + 1).toNat = 0 by omega, List.drop_zero]
        rw [decide_eq_false hi, hx0, solver_sm hS]
        simp
  · cases h
end Go.Proofs.Ytbolcmcjniiieaa.V
