/- What functions come to, and that they do so; conditions: those that each theorem states. -/
import Derived.Test.YthcahoeoofggjaaKeK9dG
set_option linter.unusedVariables false
set_option linter.unusedSimpArgs false
namespace Go.Proofs.Ythcahoeoofggjaa.V
open Go Vx Vx.N
/-! ### The law -/
noncomputable def S_laws_FnPlanRow : List DA → Option Sp
  | [.c (.row (.ints .u8 b))] => some ⟨byOk b, [B true], [], .fresh⟩
  | _ => none
theorem winAt_mem {z : Int} : ∀ (W G : List Int) (k : Int), W.length = G.length → 0 ≤ k → k < G.sum → (∀ g ∈ G, 0 ≤ g) → winAt W G k z ∈ W
  | [], [], k, _, h0, hk, _ => by rw [List.sum_nil] at hk; omega
  | [], _ :: _, _, hl, _, _, _ => by cases hl
  | _ :: _, [], _, hl, _, _, _ => by cases hl
  | w :: W, g :: G, k, hl, h0, hk, hg => by
    rw [winAt_cons]
    split
    · exact List.mem_cons_self
    · rw [List.sum_cons] at hk
      exact List.mem_cons_of_mem _ (winAt_mem W G (k - g) (Nat.succ.inj hl) (by omega) (by omega) fun x hx => hg x (List.mem_cons_of_mem _ hx))
theorem K_laws_FnPlanRow : Sound1 Try.prog EKs F_laws_FnPlanRow.f S_laws_FnPlanRow := snd ok_laws_FnPlanRow [(F_spec_DrawPlanRow.f, S_spec_DrawPlanRow), (F_impl_PlanRow.f, S_impl_PlanRow), (F_laws_whInts.f, S_laws_whInts), (F_spec_PlanRow.f, S_spec_PlanRow), (F_impl_PlanCount.f, S_impl_PlanCount), (F_impl_RowOk.f, S_impl_RowOk), (F_impl_RowDraw.f, S_impl_RowDraw)]
    (tabF_cons K_spec_DrawPlanRow (tabF_cons K_impl_PlanRow (tabF_cons K_laws_whInts (tabF_cons K_spec_PlanRow (tabF_cons K_impl_PlanCount (tabF_cons K_impl_RowOk (tabF_cons K_impl_RowDraw (tabF_nil _ _)))))))) fun args sp h hp => by
  unfold S_laws_FnPlanRow at h
  split at h
  · rename_i code
    cases h
    have hp : byOk code = true := hp
    obtain ⟨⟨_, s1, s2⟩, _, _⟩ := anyPR_ok (byOk_rd hp) (by omega)
    have s1 : (drawPR code).2.2.1.length ≤ 4 := s1
    have s2 : (drawPR code).2.2.2.1.length ≤ 4 := s2
    refine ⟨rfl, 10, (laws_FnPlanRow_run _ _).trans ?_⟩
    unfold laws_FnPlanRow_T
    by_cases l1 : (code.length : Int) > 1048576
    · rw [decide_eq_true l1]; rfl
    generalize (idR (code.take 2000) (drawPR code).2.2.2.2).1 = id at *
    generalize (drawPR code).1 = L at *
    generalize (drawPR code).2.1 = Z at *
    generalize (drawPR code).2.2.1 = W at *
    generalize (drawPR code).2.2.2.1 = G at *
    have hsm : (sm W.length && sm G.length) = true := by rw [Bool.and_eq_true]; exact ⟨decide_eq_true (by omega), decide_eq_true (by omega)⟩
    rw [decide_eq_false l1, hp, hsm, rowPS_sm, decide_eq_true rfl]
    cases hb : planB L Z W G && inB id 0 9999 with
    | false =>
      have : rowPS L Z W G id = [] := by unfold rowPS; rw [hb]
      rw [this]; rfl
    | true =>
      have hre : rowPS L Z W G id = rowPl L Z W G id := by unfold rowPS; rw [hb]
      simp only [Bool.and_eq_true] at hb
      have hP := planB_iff.1 hb.1
      have hid := inB_of.1 hb.2
      obtain ⟨hR, hl⟩ := rowPl_ok hP hid.1
      have hrs := rowP_short hR
      have hrsm : sm (rowPl L Z W G id).length = true := decide_eq_true (by omega)
      have hpc : planCnt L Z W G = cnt L Z := by unfold planCnt; rw [hb.1]
      have hne : (((rowPl L Z W G id).length : Int) == 0) = false := beq_eq_false_iff_ne.2 (by omega)
      rw [hre, hne, hpc]
      by_cases hi : id < cnt L Z
      · have : rowPl L Z W G id = [id] := by unfold rowPl; rw [if_pos hi]
        rw [this, decide_eq_true hi]
        simp
      rw [decide_eq_false hi]
      have hrd : rowPl L Z W G id = rowDr (winOf L Z W G id) id := by unfold rowPl; rw [if_neg hi]
      have hw := winOf_in id hP
      have hc := hP.2.2.1
      obtain ⟨r1, r2, r3⟩ := rowDr_ok (c := winOf L Z W G id) id ⟨hw.1, by omega⟩
      have hsum := planP_sum hP
      have hpk := pck_in (s := nxt id) (n := G.sum) hsum.1
      have hG := planP_wgt hP
      have hgl := hP.2.2.2.2.1
      -- the window is there
      have hmem : winOf L Z W G id ∈ W := winAt_mem W G _ hgl.symm hpk.1 hpk.2 fun g hg => by have := hG g hg; omega
      obtain ⟨m, hm, hme⟩ := List.mem_iff_getElem.1 hmem
      rw [hrd] at hrsm ⊢
      show laws_FnPlanRow_W11 10 10 (0, rowDr (winOf L Z W G id) id, id, L, Z, W, G) = some ([B true], [])
      refine fix7 (T := fun k => laws_FnPlanRow_T11 k) (fun i r id' L' Z' W' G' => (r = rowDr (winOf L Z W G id) id ∧ id' = id ∧ L' = L ∧ Z' = Z ∧ W' = W ∧ G' = G) ∧ (0 ≤ i ∧ i ≤ m)) (fun i _ _ _ _ _ _ => (m + 1 - i).toNat) (fun _ _ _ _ _ _ _ => ([B true], [])) ?_ _ _ _ _ _ _ _ _ ⟨⟨rfl, rfl, rfl, rfl, rfl, rfl⟩, by omega, by omega⟩ (by omega)
      intro i r id' L' Z' W' G' K hI hK
      obtain ⟨⟨e1, e2, e3, e4, e5, e6⟩, q0, q1⟩ := hI
      rw [e1, e2, e3, e4, e5, e6]
      unfold laws_FnPlanRow_T11
      simp only [Bool.cond_eq_ite, decide_eq_true_eq]
      have a1 : i < (W.length : Int) := by omega
      rw [if_pos a1, if_pos q0, if_pos a1, if_pos (of_decide_eq_true hrsm), w64i q0 (by omega)]
      have nx : i < m → K (i + 1, rowDr (winOf L Z W G id) id, id, L, Z, W, G) = some ([B true], []) := fun h => hK _ _ _ _ _ _ _ ⟨⟨rfl, rfl, rfl, rfl, rfl, rfl⟩, by omega, by omega⟩ (by omega)
      by_cases he : i = m
      · have hg : W.getD i.toNat 0 = winOf L Z W G id := by rw [he, Int.toNat_natCast, getD_lt hm, hme]
        rw [hg, if_pos r1, if_pos q0, if_pos a1, if_pos (of_decide_eq_true hrsm), rowS_eq ⟨hw.1, by omega⟩ ⟨hid.1, by omega⟩, if_pos rfl]
      · rw [nx (by omega), if_pos q0, if_pos a1, if_pos (of_decide_eq_true hrsm)]
        simp
  · cases h
end Go.Proofs.Ythcahoeoofggjaa.V
