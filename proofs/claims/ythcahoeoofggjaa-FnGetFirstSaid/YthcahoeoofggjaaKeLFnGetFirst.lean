/- What functions come to, and that they do so; conditions: those that each theorem states. -/
import Derived.Test.YthcahoeoofggjaaKeK12G
set_option linter.unusedVariables false
set_option linter.unusedSimpArgs false
namespace Go.Proofs.Ythcahoeoofggjaa.V
open Go Vx Vx.N
/-! ### The law -/
noncomputable def S_laws_FnGetFirst : List DA → Option Sp
  | [.c (.row (.ints .u8 a))] => some ⟨byOk a, [B true], [], .fresh⟩
  | _ => none
theorem newG_sm {L Z : Int} {W G : List Int} (h : (sm W.length && sm G.length) = true) : smG (newG L Z W G).2.2.1 (newG L Z W G).2.2.2.1 (newG L Z W G).2.2.2.2.2.2 = true := by
  unfold newG
  cases planB L Z W G with
  | false => rfl
  | true =>
    show ((sm W.length && sm G.length) && smE []) = true
    rw [h]; rfl
/-- The first blocks, each told alone. -/
def firstE (bl : List ByteArray) (i : Nat) : List Eqn := (List.range i).map fun (j : Nat) => ([(j : Int)], bl.getD j ⟨#[]⟩)
theorem firstE_mem {bl : List ByteArray} {i : Nat} {e : Eqn} (h : e ∈ firstE bl i) : ∃ j, j < i ∧ e = ([(j : Int)], bl.getD j ⟨#[]⟩) := by
  obtain ⟨j, hj, rfl⟩ := List.mem_map.1 h
  exact ⟨j, List.mem_range.1 hj, rfl⟩
theorem putE_end (e : Eqn) : ∀ l : List Eqn, (∀ f ∈ l, ¬ piv f > piv e) → putE e l = l ++ [e]
  | [], _ => rfl
  | f :: l, h => by
    rw [putE_cons, if_neg (h f List.mem_cons_self), putE_end e l fun g hg => h g (List.mem_cons_of_mem _ hg)]; rfl
theorem first_add (bl : List ByteArray) (z : Int) (i : Nat) : addE z (firstE bl i) [(i : Int)] (bl.getD i ⟨#[]⟩) = (firstE bl (i + 1), 0) := by
  have hpe : ∀ (j : Nat) (t : ByteArray), piv ([(j : Int)], t) = j := fun _ _ => rfl
  have hred : redE (firstE bl i) [(i : Int)] (bl.getD i ⟨#[]⟩) = ([(i : Int)], bl.getD i ⟨#[]⟩) := by
    refine red_id (v := ([(i : Int)], bl.getD i ⟨#[]⟩)) fun f hf => ?_
    obtain ⟨j, hj, rfl⟩ := firstE_mem hf
    rw [hpe, List.mem_singleton]
    omega
  rw [addE_eq, hred, if_neg (by simp)]
  have hmap : (firstE bl i).map (clearE ([(i : Int)], bl.getD i ⟨#[]⟩)) = firstE bl i := by
    conv => rhs; rw [← List.map_id (firstE bl i)]
    refine List.map_congr_left fun f hf => ?_
    obtain ⟨j, hj, rfl⟩ := firstE_mem hf
    unfold clearE
    rw [decide_eq_false]; rfl
    rw [hpe]
    show ¬ (i : Int) ∈ [(j : Int)]
    rw [List.mem_singleton]
    omega
  unfold learnE
  rw [hmap, putE_end]
  · unfold firstE
    rw [List.range_succ, List.map_append]; rfl
  · intro f hf
    obtain ⟨j, hj, rfl⟩ := firstE_mem hf
    rw [hpe, hpe]
    omega
theorem first_pref {c z : Int} {bl : List ByteArray} {i : Nat} (hS : SolverP c z (firstE bl i)) : prefE (firstE bl i) = i := by
  obtain ⟨h1, h2, _⟩ := pref_ok hS
  have hin : ∀ j : Nat, j < i → (getE (firstE bl i) (j : Nat)).2 = true := fun j hj => getE_mem_iff.2 ⟨_, List.mem_map.2 ⟨j, List.mem_range.2 hj, rfl⟩, rfl⟩
  rcases Nat.lt_trichotomy (prefE (firstE bl i)) i with h | h | h
  · rw [hin _ h] at h2; cases h2
  · exact h
  · exfalso
    obtain ⟨e, he, h3⟩ := getE_mem_iff.1 (h1 i h)
    obtain ⟨j, hj, rfl⟩ := firstE_mem he
    have := List.cons.inj h3
    omega
theorem win_asc {L Z : Int} {W G : List Int} (h : PlanP L Z W G) : ∀ (d j : Nat), j + d < W.length → W.getD j 0 + d ≤ W.getD (j + d) 0
  | 0, j, _ => by show W.getD j 0 + ((0 : Nat) : Int) ≤ W.getD j 0; omega
  | d + 1, j, hj => by
    have h1 := win_asc h d j (by omega)
    have h2 := (h.2.2.2.2.2.1 (j + (d + 1)) (Nat.zero_le _) hj).2.1 (by omega)
    rw [show j + (d + 1) - 1 = j + d by omega] at h2
    omega
theorem win_at {L Z : Int} {W G : List Int} (h : PlanP L Z W G) {k : Int} {n : Nat} (hn : n < W.length) (hk : W.getD n 0 = k) : winK W k = n + 1 := by
  refine winK_eq (by omega) (fun j hj => ?_) fun hl => ?_
  · have := win_asc h (n - j) j (by omega)
    rw [show j + (n - j) = n by omega] at this
    omega
  · have := win_asc h 1 n (by omega)
    omega
theorem K_laws_FnGetFirst : Sound1 Try.prog EKs F_laws_FnGetFirst.f S_laws_FnGetFirst := snd ok_laws_FnGetFirst [(F_spec_DrawPlanCut.f, S_spec_DrawPlanCut), (F_impl_GetNew.f, S_impl_GetNew), (F_laws_whGetting.f, S_laws_whGetting), (F_spec_GetNew.f, S_spec_GetNew), (F_spec_PlanOk.f, S_spec_PlanOk), (F_impl_PlanCount.f, S_impl_PlanCount), (F_impl_PlanSymbol.f, S_impl_PlanSymbol), (F_impl_GetAdd.f, S_impl_GetAdd), (F_impl_GetWindows.f, S_impl_GetWindows), (F_impl_GetDone.f, S_impl_GetDone), (F_impl_GetText.f, S_impl_GetText)]
    (tabF_cons K_spec_DrawPlanCut (tabF_cons K_impl_GetNew (tabF_cons K_laws_whGetting (tabF_cons K_spec_GetNew (tabF_cons K_spec_PlanOk (tabF_cons K_impl_PlanCount (tabF_cons K_impl_PlanSymbol (tabF_cons K_impl_GetAdd (tabF_cons K_impl_GetWindows (tabF_cons K_impl_GetDone (tabF_cons K_impl_GetText (tabF_nil _ _)))))))))))) fun args sp h hp => by
  unfold S_laws_FnGetFirst at h
  split at h
  · rename_i code
    cases h
    have p1 : byOk code = true := hp
    obtain ⟨⟨_, s1, s2⟩, s3⟩ := cutR_ok p1
    refine ⟨rfl, 30, (laws_FnGetFirst_run _ _).trans ?_⟩
    unfold laws_FnGetFirst_T
    by_cases l1 : (code.length : Int) > 1048576
    · rw [decide_eq_true l1]; rfl
    rw [decide_eq_false l1, p1]
    generalize (cutR code).1 = L at *
    generalize (cutR code).2.1 = Z at *
    generalize (cutR code).2.2.1 = W at *
    generalize (cutR code).2.2.2.1 = G at *
    generalize (cutR code).2.2.2.2 = t at *
    have hsm : (sm W.length && sm G.length) = true := by rw [Bool.and_eq_true]; exact ⟨decide_eq_true (by omega), decide_eq_true (by omega)⟩
    rw [hsm, newG_sm hsm, decide_eq_true rfl, decide_eq_true rfl]
    cases hb : planB L Z W G with
    | false => rfl
    | true =>
      by_cases ht : (t.size : Int) = L
      rotate_left
      · rw [bne_iff_ne.2 ht]; rfl
      have hne : ((t.size : Int) != L) = false := by rw [ht]; simp
      have hn : newG L Z W G = (L, Z, W, G, cnt L Z, Z, []) := by unfold newG; rw [hb]
      rw [hne, hn]
      have hP := planB_iff.1 hb
      have h2 := hP.2.1
      have h3 := hP.2.2.1
      have hwl := hP.2.2.2.1
      have hl := cutL_len L Z t
      have hc : ((cutL L Z t).length : Int) = cnt L Z := by rw [hl]; omega
      have hz : ((Z.toNat : Nat) : Int) = Z := by omega
      have hpc : planCnt L Z W G = cnt L Z := by unfold planCnt; rw [hb]
      have hcs := cutL_size hP ht
      show laws_FnGetFirst_W8 30 30 (0, t, L, Z, W, G, cnt L Z, Z, [], L, Z, W, G) = some ([B true], [])
      refine fix13 (T := fun k => laws_FnGetFirst_T8 (laws_FnGetFirst_W16 30 k 30)) (fun i t' a1 a2 a3 a4 a5 a6 es b1 b2 b3 b4 => (t' = t ∧ a1 = L ∧ a2 = Z ∧ a3 = W ∧ a4 = G ∧ a5 = cnt L Z ∧ a6 = Z ∧ b1 = L ∧ b2 = Z ∧ b3 = W ∧ b4 = G) ∧ (0 ≤ i ∧ i ≤ cnt L Z) ∧ (SolverP (cnt L Z) Z es ∧ ∀ e ∈ es, Tru (cutL L Z t) Z.toNat e) ∧ es = firstE (cutL L Z t) i.toNat) (fun i _ _ _ _ _ _ _ _ _ _ _ _ => (cnt L Z - i).toNat) (fun _ _ _ _ _ _ _ _ _ _ _ _ _ => ([B true], [])) ?_ _ _ _ _ _ _ _ _ _ _ _ _ _ _ ⟨⟨rfl, rfl, rfl, rfl, rfl, rfl, rfl, rfl, rfl, rfl, rfl⟩, ⟨by omega, by omega⟩, ⟨solver_nil h3 h2, fun e he => by cases he⟩, rfl⟩ (by omega)
      intro i t' a1 a2 a3 a4 a5 a6 es b1 b2 b3 b4 K hI hK
      obtain ⟨⟨e1, e3, e4, e5, e6, e7, e8, e9, e10, e11, e12⟩, ⟨q0, q1⟩, ⟨hS, hT⟩, hes⟩ := hI
      rw [e1, e3, e4, e5, e6, e7, e8, e9, e10, e11, e12]
      have hsg : ∀ es', SolverP (cnt L Z) Z es' → smG W G es' = true := fun es' hS' => by
        show ((sm W.length && sm G.length) && smE es') = true
        rw [hsm, solver_sm hS']; rfl
      have hg : getB L Z W G (cnt L Z) Z es = true := getB_iff.2 ⟨hP, hS, rfl, rfl⟩
      unfold laws_FnGetFirst_T8
      dsimp only
      rw [hsm, hpc, hsg es hS]
      by_cases hi : i < cnt L Z
      rotate_left
      · have hpf : (prefE es : Int) = cnt L Z := by rw [hes, first_pref (by rw [← hes]; exact hS)]; omega
        have hd : doneS L Z W G (cnt L Z) Z es = true := by unfold doneS; rw [hg, decide_eq_true hpf]; rfl
        rw [decide_eq_false hi, hd, (text_begins hP ht hS hT).2.2 hpf, ba_toList_eq, decide_eq_true rfl]; rfl
      have hidr : 0 ≤ i ∧ i ≤ 9999 := ⟨q0, by omega⟩
      have hin : inB i 0 9999 = true := inBt hidr
      have hsy : symS L Z W G t i = (symB L Z W G t i, true) := by unfold symS; rw [hb, decide_eq_true ht, hin]; rfl
      have hsz := symB_size hP ht hidr.1
      have hr := (rowPl_ok hP hidr.1).1
      have hrow : rowPl L Z W G i = [((i.toNat : Nat) : Int)] := by unfold rowPl; rw [if_pos hi, Int.toNat_of_nonneg q0]
      have hblk : symB L Z W G t i = (cutL L Z t).getD i.toNat ⟨#[]⟩ := by
        unfold symB
        rw [hrow]
        show xorB (zerosB Z.toNat) ((cutL L Z t).getD ((i.toNat : Nat) : Int).toNat ⟨#[]⟩) = _
        rw [Int.toNat_natCast]
        refine zr_xorB _ _ ?_
        rw [getD_lt (show i.toNat < (cutL L Z t).length by omega)]
        exact hcs _ (List.getElem_mem _)
      have hadd := first_add (cutL L Z t) Z i.toNat
      rw [← hes, ← hrow, ← hblk] at hadd
      have hA : addG L Z W G (cnt L Z) Z es i (symB L Z W G t i) = ((L, Z, W, G, cnt L Z, Z, firstE (cutL L Z t) (i.toNat + 1)), 0) := by
        unfold addG
        rw [hg, hin, decide_eq_true hsz, hadd]; rfl
      have hta := (tru_add hcs (es := es) (row := rowPl L Z W G i) (by rw [hc, hz]; exact hS) hT (by rw [hc]; exact hr)).2
      rw [hz] at hta
      have hta : ∀ e ∈ (addE Z es (rowPl L Z W G i) (symB L Z W G t i)).1, Tru (cutL L Z t) Z.toNat e := hta
      have hS2 := add_ok hS hr hsz
      rw [hadd] at hta hS2
      have hS2 : SolverP (cnt L Z) Z (firstE (cutL L Z t) (i.toNat + 1)) := hS2
      have nx := hK (i + 1) _ _ _ _ _ _ _ (firstE (cutL L Z t) (i.toNat + 1)) _ _ _ _ ⟨⟨rfl, rfl, rfl, rfl, rfl, rfl, rfl, rfl, rfl, rfl, rfl⟩, ⟨by omega, by omega⟩, ⟨hS2, hta⟩, by rw [toNat_succ q0]⟩ (by omega)
      have hg2 : getB L Z W G (cnt L Z) Z (firstE (cutL L Z t) (i.toNat + 1)) = true := getB_iff.2 ⟨hP, hS2, rfl, rfl⟩
      have hpf2 := first_pref hS2
      rw [decide_eq_true hi, hsy, hA]
      show laws_FnGetFirst_W16 30 K 30 (0, i, t, L, Z, W, G, cnt L Z, Z, firstE (cutL L Z t) (i.toNat + 1), L, Z, W, G) = some ([B true], [])
      refine fix14 (T := fun k => laws_FnGetFirst_T16 k K) (fun n i' t' a1 a2 a3 a4 a5 a6 es' b1 b2 b3 b4 => (i' = i ∧ t' = t ∧ a1 = L ∧ a2 = Z ∧ a3 = W ∧ a4 = G ∧ a5 = cnt L Z ∧ a6 = Z ∧ es' = firstE (cutL L Z t) (i.toNat + 1) ∧ b1 = L ∧ b2 = Z ∧ b3 = W ∧ b4 = G) ∧ (0 ≤ n ∧ n ≤ W.length)) (fun n _ _ _ _ _ _ _ _ _ _ _ _ _ => (W.length - n).toNat) (fun _ _ _ _ _ _ _ _ _ _ _ _ _ _ => ([B true], [])) ?_ _ _ _ _ _ _ _ _ _ _ _ _ _ _ _ ⟨⟨rfl, rfl, rfl, rfl, rfl, rfl, rfl, rfl, rfl, rfl, rfl, rfl, rfl⟩, by omega, by omega⟩ (by omega)
      intro n i' t' a1 a2 a3 a4 a5 a6 es' b1 b2 b3 b4 K2 hI2 hK2
      obtain ⟨⟨f0, f1, f3, f4, f5, f6, f7, f8, f9, f10, f11, f12, f13⟩, w0, w1⟩ := hI2
      rw [f0, f1, f3, f4, f5, f6, f7, f8, f9, f10, f11, f12, f13]
      unfold laws_FnGetFirst_T16
      dsimp only
      rw [w64i q0 (by omega)]
      by_cases hn2 : n < (W.length : Int)
      · have nx2 := hK2 (n + 1) _ _ _ _ _ _ _ _ _ _ _ _ _ ⟨⟨rfl, rfl, rfl, rfl, rfl, rfl, rfl, rfl, rfl, rfl, rfl, rfl, rfl⟩, by omega, by omega⟩ (by omega)
        rw [decide_eq_true hn2, decide_eq_true w0, w64i w0 (by omega), nx2, hsg _ hS2, beq_dec]
        by_cases hw : W.getD n.toNat 0 = i + 1
        · have hwd : windS L Z W G (cnt L Z) Z (firstE (cutL L Z t) (i.toNat + 1)) = n.toNat + 1 := by
            unfold windS
            rw [hg2, hpf2]
            refine win_at hP (by omega) ?_
            rw [hw]; omega
          have hneq : ((((n.toNat + 1 : Nat)) : Int) != n + 1) = false := by
            rw [show (((n.toNat + 1 : Nat)) : Int) = n + 1 by omega]; simp
          rw [decide_eq_true hw, hwd, hneq]; rfl
        · rw [decide_eq_false hw]; rfl
      · rw [decide_eq_false hn2, nx]; rfl
  · cases h
end Go.Proofs.Ythcahoeoofggjaa.V
