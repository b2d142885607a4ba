/- What functions come to, and that they do so; conditions: those that each theorem states. -/
import Derived.Test.YthcahoeoofggjaaKeK12G
set_option linter.unusedVariables false
set_option linter.unusedSimpArgs false
namespace Go.Proofs.Ythcahoeoofggjaa.V
open Go Vx Vx.N
/-! ### The law -/
noncomputable def S_laws_FnGetTruth : List DA → Option Sp
  | [.c (.row (.ints .u8 a)), .c (.row (.ints .u8 b))] => some ⟨byOk a && byOk b, [B true], [], .fresh⟩
  | _ => none
theorem byOk_at {b : List Int} (h : byOk b = true) {i : Nat} (hi : i < b.length) : 0 ≤ b.getD i 0 ∧ b.getD i 0 < 256 := by
  simp only [byOk, List.all_eq_true, decide_eq_true_eq] at h
  rw [getD_lt hi]
  exact h _ (List.getElem_mem hi)
theorem newG_sm {L Z : Int} {W G : List Int} (h : (sm W.length && sm G.length) = true) : smG (newG L Z W G).2.2.1 (newG L Z W G).2.2.2.1 (newG L Z W G).2.2.2.2.2.2 = true := by
  unfold newG
  cases planB L Z W G with
  | false => rfl
  | true =>
    show ((sm W.length && sm G.length) && smE []) = true
    rw [h]; rfl
theorem K_laws_FnGetTruth : Sound1 Try.prog EKs F_laws_FnGetTruth.f S_laws_FnGetTruth := snd ok_laws_FnGetTruth [(F_spec_DrawPlanCut.f, S_spec_DrawPlanCut), (F_impl_GetNew.f, S_impl_GetNew), (F_laws_whGetting.f, S_laws_whGetting), (F_spec_GetNew.f, S_spec_GetNew), (F_spec_PlanOk.f, S_spec_PlanOk), (F_impl_PlanSymbol.f, S_impl_PlanSymbol), (F_impl_GetAdd.f, S_impl_GetAdd), (F_impl_GetText.f, S_impl_GetText), (F_impl_GetDone.f, S_impl_GetDone), (F_impl_SolverRank.f, S_impl_SolverRank), (F_impl_PlanCount.f, S_impl_PlanCount)]
    (tabF_cons K_spec_DrawPlanCut (tabF_cons K_impl_GetNew (tabF_cons K_laws_whGetting (tabF_cons K_spec_GetNew (tabF_cons K_spec_PlanOk (tabF_cons K_impl_PlanSymbol (tabF_cons K_impl_GetAdd (tabF_cons K_impl_GetText (tabF_cons K_impl_GetDone (tabF_cons K_impl_SolverRank (tabF_cons K_impl_PlanCount (tabF_nil _ _)))))))))))) fun args sp h hp => by
  unfold S_laws_FnGetTruth at h
  split at h
  · rename_i code more
    cases h
    simp only [Bool.and_eq_true] at hp
    obtain ⟨p1, p2⟩ := hp
    obtain ⟨⟨_, s1, s2⟩, s3⟩ := cutR_ok p1
    refine ⟨rfl, 100, (laws_FnGetTruth_run _ _ _).trans ?_⟩
    unfold laws_FnGetTruth_T
    by_cases l1 : (code.length : Int) > 1048576
    · rw [decide_eq_true l1]; rfl
    by_cases l2 : (more.length : Int) > 1048576
    · rw [decide_eq_false l1, decide_eq_true l2]; rfl
    rw [decide_eq_false l1, decide_eq_false l2, p1]
    generalize (cutR code).1 = L at *
    generalize (cutR code).2.1 = Z at *
    generalize (cutR code).2.2.1 = W at *
    generalize (cutR code).2.2.2.1 = G at *
    generalize (cutR code).2.2.2.2 = t at *
    have hsm : (sm W.length && sm G.length) = true := by rw [Bool.and_eq_true]; exact ⟨decide_eq_true (by omega), decide_eq_true (by omega)⟩
    rw [hsm, newG_sm hsm, decide_eq_true rfl, decide_eq_true rfl]
    cases hb : planB L Z W G with
    | false => rfl
    | true =>
      by_cases ht : (t.size : Int) = L
      rotate_left
      · rw [bne_iff_ne.2 ht]; rfl
      have hne : ((t.size : Int) != L) = false := by rw [ht]; simp
      have hn : newG L Z W G = (L, Z, W, G, cnt L Z, Z, []) := by unfold newG; rw [hb]
      rw [hne, hn]
      have hP := planB_iff.1 hb
      have h2 := hP.2.1
      have h3 := hP.2.2.1
      have hl := cutL_len L Z t
      have hc : ((cutL L Z t).length : Int) = cnt L Z := by rw [hl]; omega
      have hz : ((Z.toNat : Nat) : Int) = Z := by omega
      have hpc : planCnt L Z W G = cnt L Z := by unfold planCnt; rw [hb]
      show laws_FnGetTruth_W8 100 100 (0, t, more, L, Z, W, G, cnt L Z, Z, [], L, Z, W, G) = some ([B true], [])
      refine fix14 (T := fun k => laws_FnGetTruth_T8 k) (fun i t' m' a1 a2 a3 a4 a5 a6 es b1 b2 b3 b4 => (t' = t ∧ m' = more ∧ a1 = L ∧ a2 = Z ∧ a3 = W ∧ a4 = G ∧ a5 = cnt L Z ∧ a6 = Z ∧ b1 = L ∧ b2 = Z ∧ b3 = W ∧ b4 = G) ∧ (0 ≤ i ∧ i ≤ 60) ∧ SolverP (cnt L Z) Z es ∧ ∀ e ∈ es, Tru (cutL L Z t) Z.toNat e) (fun i _ _ _ _ _ _ _ _ _ _ _ _ _ => (60 - i).toNat) (fun _ _ _ _ _ _ _ _ _ _ _ _ _ _ => ([B true], [])) ?_ _ _ _ _ _ _ _ _ _ _ _ _ _ _ _ ⟨⟨rfl, rfl, rfl, rfl, rfl, rfl, rfl, rfl, rfl, rfl, rfl, rfl⟩, ⟨by omega, by omega⟩, solver_nil h3 h2, fun e he => by cases he⟩ (by omega)
      intro i t' m' a1 a2 a3 a4 a5 a6 es b1 b2 b3 b4 K hI hK
      obtain ⟨⟨e1, e2, e3, e4, e5, e6, e7, e8, e9, e10, e11, e12⟩, ⟨q0, q1⟩, hS, hT⟩ := hI
      rw [e1, e2, e3, e4, e5, e6, e7, e8, e9, e10, e11, e12]
      have hsE := solver_sm hS
      have hsg : ∀ es', SolverP (cnt L Z) Z es' → smG W G es' = true := fun es' hS' => by
        show ((sm W.length && sm G.length) && smE es') = true
        rw [hsm, solver_sm hS']; rfl
      have fin : cond (smG W G es) (cond (!doneS L Z W G (cnt L Z) Z es) (some ([B true], [])) (cond (smG W G es) (some ([B ((textS L Z W G (cnt L Z) Z es).toList == t.toList)], [])) none)) none = (some ([B true], []) : Rs) := by
        have hg : getB L Z W G (cnt L Z) Z es = true := getB_iff.2 ⟨hP, hS, rfl, rfl⟩
        have hd : doneS L Z W G (cnt L Z) Z es = decide ((prefE es : Int) = cnt L Z) := by unfold doneS; rw [hg]; rfl
        rw [hsg es hS, hd]
        by_cases hf : (prefE es : Int) = cnt L Z
        · rw [decide_eq_true hf, (text_begins hP ht hS hT).2.2 hf, ba_toList_eq, decide_eq_true rfl]; rfl
        · rw [decide_eq_false hf]; rfl
      unfold laws_FnGetTruth_T8
      dsimp only
      by_cases hi : i < (more.length : Int)
      rotate_left
      · rw [decide_eq_false hi]; exact fin
      by_cases hi6 : i < 60
      rotate_left
      · rw [decide_eq_true hi, decide_eq_false hi6]; exact fin
      -- the number
      have hby := byOk_at p2 (i := i.toNat) (by omega)
      have hm3 : Int.tmod i 3 = i % 3 := Int.tmod_eq_emod_of_nonneg q0
      obtain ⟨id, hid⟩ : ∃ id, id = IntKind.wrap .i64 (IntKind.wrap .i64 (more.getD i.toNat 0) * IntKind.wrap .i64 (1 + Int.tmod i 3)) := ⟨_, rfl⟩
      have hidr : 0 ≤ id ∧ id ≤ 9999 := by
        rw [hid, hm3, w64 (x := more.getD i.toNat 0) (by omega) (by omega), w64 (x := 1 + i % 3) (by omega) (by omega)]
        have m1 : 0 ≤ more.getD i.toNat 0 * (1 + i % 3) := Int.mul_nonneg hby.1 (by omega)
        have m2 : more.getD i.toNat 0 * (1 + i % 3) ≤ 255 * 3 := Int.mul_le_mul (by omega) (by omega) (by omega) (by omega)
        rw [w64 (by omega) (by omega)]
        omega
      rw [← hid, decide_eq_true hi, decide_eq_true hi6, decide_eq_true q0, hsm, hsg es hS]
      have hin : inB id 0 9999 = true := inBt hidr
      have hsy : symS L Z W G t id = (symB L Z W G t id, true) := by unfold symS; rw [hb, decide_eq_true ht, hin]; rfl
      have hsz := symB_size hP ht hidr.1
      have hr := (rowPl_ok hP hidr.1).1
      have hg : getB L Z W G (cnt L Z) Z es = true := getB_iff.2 ⟨hP, hS, rfl, rfl⟩
      have hA : addG L Z W G (cnt L Z) Z es id (symB L Z W G t id) = ((L, Z, W, G, cnt L Z, Z, (addE Z es (rowPl L Z W G id) (symB L Z W G t id)).1), (addE Z es (rowPl L Z W G id) (symB L Z W G t id)).2) := by
        unfold addG
        rw [hg, hin, decide_eq_true hsz]; rfl
      have hta := tru_add (cutL_size hP ht) (es := es) (row := rowPl L Z W G id) (by rw [hc, hz]; exact hS) hT (by rw [hc]; exact hr)
      rw [hz] at hta
      have hta : (addE Z es (rowPl L Z W G id) (symB L Z W G t id)).2 ≠ 2 ∧ ∀ e ∈ (addE Z es (rowPl L Z W G id) (symB L Z W G t id)).1, Tru (cutL L Z t) Z.toNat e := hta
      have hS2 := add_ok hS hr hsz
      have hcode : (addE Z es (rowPl L Z W G id) (symB L Z W G t id)).2 = 0 ∨ (addE Z es (rowPl L Z W G id) (symB L Z W G t id)).2 = 1 := by
        rcases addE_cases Z es (rowPl L Z W G id) (symB L Z W G t id) with ⟨_, _, e⟩ | ⟨_, _, e⟩ | ⟨_, e⟩
        · rw [e]; exact .inr rfl
        · exact absurd (by rw [e]) hta.1
        · rw [e]; exact .inl rfl
      rw [hsy, hA]
      generalize addE Z es (rowPl L Z W G id) (symB L Z W G t id) = A at *
      obtain ⟨es2, code2⟩ := A
      dsimp only at hta hS2 hcode ⊢
      obtain ⟨x1, x2, _⟩ := text_begins hP ht hS2 hta.2
      have hg2 : getB L Z W G (cnt L Z) Z es2 = true := getB_iff.2 ⟨hP, hS2, rfl, rfl⟩
      have hd2 : doneS L Z W G (cnt L Z) Z es2 = decide ((prefE es2 : Int) = cnt L Z) := by unfold doneS; rw [hg2]; rfl
      have hrk : rankS (cnt L Z) Z es2 = es2.length := by unfold rankS; rw [solvB_iff.2 hS2]
      have hpo := pref_ok hS2
      have hdr : (decide ((prefE es2 : Int) = cnt L Z) == (((es2.length : Nat) : Int) == cnt L Z)) = true := by
        rw [beq_dec]
        by_cases hf : (prefE es2 : Int) = cnt L Z
        · rw [decide_eq_true hf, decide_eq_true (show (es2.length : Int) = cnt L Z by omega)]; rfl
        · rw [decide_eq_false hf, decide_eq_false (show ¬ (es2.length : Int) = cnt L Z by omega)]; rfl
      have hx2 : ((t.extract 0 ((textS L Z W G (cnt L Z) Z es2).size : Int).toNat).toList == (textS L Z W G (cnt L Z) Z es2).toList) = true := by
        rw [ba_toList_eq, Int.toNat_natCast, ← x2, decide_eq_true rfl]
      have nx := hK (i + 1) _ _ _ _ _ _ _ _ es2 _ _ _ _ ⟨⟨rfl, rfl, rfl, rfl, rfl, rfl, rfl, rfl, rfl, rfl, rfl, rfl⟩, ⟨by omega, by omega⟩, hS2, hta.2⟩ (by omega)
      rw [hsg es2 hS2, decide_eq_false (show ¬ ((textS L Z W G (cnt L Z) Z es2).size : Int) > t.size by omega), decide_eq_true (show ((textS L Z W G (cnt L Z) Z es2).size : Int) ≤ t.size by omega), hx2, solver_sm hS2, hd2, hrk, hpc, hdr, w64i q0 (by omega), nx]
      rcases hcode with e | e <;> rw [e] <;> rfl
  · cases h
end Go.Proofs.Ythcahoeoofggjaa.V
