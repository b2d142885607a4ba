/- What functions come to, and that they do so; conditions: those that each theorem states. -/
import Derived.Test.YthcahoeoofggjaaKeK9b
set_option linter.unusedVariables false
set_option linter.unusedSimpArgs false
namespace Go.Proofs.Ythcahoeoofggjaa.V
open Go Vx Vx.N
/-! ### Rows of a plan, walked -/
theorem winAt_cons (w : Int) (W : List Int) (g : Int) (G : List Int) (k z : Int) : winAt (w :: W) (g :: G) k z = if k < g then w else winAt W G (k - g) z := rfl
theorem sum_drop {G : List Int} (h : ∀ g ∈ G, 1 ≤ g ∧ g ≤ 99) (i : Nat) : 0 ≤ (G.drop i).sum := by
  have := sum_in (G := G.drop i) fun g hg => h g (List.mem_of_mem_drop hg)
  omega
theorem K_spec_l5Window : Sound1 Try.prog EKs F_spec_l5Window.f S_spec_l5Window := snd ok_spec_l5Window [(F_spec_l4Pick.f, S_spec_l4Pick), (F_spec_l4Next.f, S_spec_l4Next), (F_spec_l5Count.f, S_spec_l5Count)] (tabF_cons K_spec_l4Pick (tabF_cons K_spec_l4Next (tabF_cons K_spec_l5Count (tabF_nil _ _)))) fun args sp h hp => by
  unfold S_spec_l5Window at h
  split at h
  · rename_i L Z W G id
    cases h
    simp only [Bool.and_eq_true, decide_eq_true_eq] at hp
    obtain ⟨hb, hid⟩ := hp
    have hP := planB_iff.1 hb
    have hG := planP_wgt hP
    have hs := planP_sum hP
    have hgl := hP.2.2.2.2.1
    have hwl := hP.2.2.2.1
    have hz : 1 ≤ Z ∧ Z ≤ 16 ∧ 0 ≤ L ∧ L < 1000 := ⟨hP.2.1.1, hP.2.1.2, by have := hP.1; omega, by have := hP.1; omega⟩
    have hn := nxt_in (s := id)
    have hpk := pck_in (s := nxt id) (n := G.sum) hs.1
    refine ⟨rfl, 10, (spec_l5Window_run _ _ _ _ _ _).trans ?_⟩
    have loop2 : spec_l5Window_W8 10 10 (0, pck (nxt id) G.sum, L, Z, W, G) = some ([I (winOf L Z W G id)], []) := by
      refine fix6 (T := fun k => spec_l5Window_T8 k) (fun i k L' Z' W' G' => (L' = L ∧ Z' = Z ∧ W' = W ∧ G' = G) ∧ (0 ≤ i ∧ i ≤ G.length) ∧ (0 ≤ k ∧ k ≤ 297) ∧ winAt (W.drop i.toNat) (G.drop i.toNat) k (cnt L Z) = winOf L Z W G id) (fun i _ _ _ _ _ => (G.length - i).toNat) (fun _ _ _ _ _ _ => ([I (winOf L Z W G id)], [])) ?_ _ _ _ _ _ _ _ ⟨⟨rfl, rfl, rfl, rfl⟩, ⟨by omega, by omega⟩, ⟨hpk.1, by omega⟩, rfl⟩ (by omega)
      intro i k L' Z' W' G' K hI hK
      obtain ⟨⟨e1, e2, e3, e4⟩, ⟨q0, q1⟩, ⟨q2, q3⟩, q4⟩ := hI
      rw [e1, e2, e3, e4]
      unfold spec_l5Window_T8
      simp only [Bool.cond_eq_ite, decide_eq_true_eq]
      by_cases hi : i < (G.length : Int)
      · have hg := hG _ (show G.getD i.toNat 0 ∈ G by rw [getD_lt (show i.toNat < G.length by omega)]; exact List.getElem_mem _)
        rw [drop_at (show i.toNat < G.length by omega) 0, drop_at (show i.toNat < W.length by omega) 0, winAt_cons] at q4
        rw [if_pos hi, if_pos q0, if_pos hi]
        by_cases c : k < G.getD i.toNat 0
        · rw [if_pos c] at q4 ⊢
          rw [if_pos q0, if_pos (by omega), q4]
        · rw [if_neg c] at q4 ⊢
          rw [if_pos q0, if_pos hi, w64i q0 (by omega), w64 (x := k - _) (by omega) (by omega)]
          exact hK _ _ _ _ _ _ ⟨⟨rfl, rfl, rfl, rfl⟩, ⟨by omega, by omega⟩, ⟨by omega, by omega⟩, by rw [toNat_succ q0]; exact q4⟩ (by omega)
      · rw [if_neg hi, if_pos hz]
        rw [List.drop_eq_nil_of_le (show W.length ≤ i.toNat by omega)] at q4
        rw [← q4]; rfl
    refine fix7 (T := fun k => spec_l5Window_T3 k (spec_l5Window_W8 10 10)) (fun i s id' L' Z' W' G' => (id' = id ∧ L' = L ∧ Z' = Z ∧ W' = W ∧ G' = G) ∧ (0 ≤ i ∧ i ≤ G.length) ∧ 0 ≤ s ∧ s + (G.drop i.toNat).sum = G.sum) (fun i _ _ _ _ _ _ => (G.length - i).toNat) (fun _ _ _ _ _ _ _ => ([I (winOf L Z W G id)], [])) ?_ _ _ _ _ _ _ _ _ ⟨⟨rfl, rfl, rfl, rfl, rfl⟩, ⟨by omega, by omega⟩, by omega, by rw [Int.toNat_zero, List.drop_zero]; omega⟩ (by omega)
    intro i s id' L' Z' W' G' K hI hK
    obtain ⟨⟨e0, e1, e2, e3, e4⟩, ⟨q0, q1⟩, q2, q3⟩ := hI
    rw [e0, e1, e2, e3, e4]
    unfold spec_l5Window_T3
    simp only [Bool.cond_eq_ite, decide_eq_true_eq]
    have hsd := sum_drop hG i.toNat
    by_cases hi : i < (G.length : Int)
    · have hg := hG _ (show G.getD i.toNat 0 ∈ G by rw [getD_lt (show i.toNat < G.length by omega)]; exact List.getElem_mem _)
      have hsd2 := sum_drop hG (i.toNat + 1)
      rw [drop_at (show i.toNat < G.length by omega) 0, List.sum_cons] at q3
      rw [if_pos hi, if_pos q0, if_pos hi, w64i q0 (by omega), w64 (x := s + _) (by omega) (by omega)]
      exact hK _ _ _ _ _ _ _ ⟨⟨rfl, rfl, rfl, rfl, rfl⟩, ⟨by omega, by omega⟩, by omega, by rw [toNat_succ q0]; omega⟩ (by omega)
    · rw [List.drop_eq_nil_of_le (show G.length ≤ i.toNat by omega)] at q3
      have es : s = G.sum := by rw [← q3]; simp
      rw [if_neg hi, es, if_pos ⟨hid.1, by omega⟩, if_pos ⟨hn, hs.1, by omega⟩]
      exact loop2
  · cases h
theorem K_spec_l5Row : Sound1 Try.prog EKs F_spec_l5Row.f S_spec_l5Row := snd ok_spec_l5Row [(F_spec_l5Count.f, S_spec_l5Count), (F_spec_l4Row.f, S_spec_l4Row), (F_spec_l5Window.f, S_spec_l5Window)] (tabF_cons K_spec_l5Count (tabF_cons K_spec_l4Row (tabF_cons K_spec_l5Window (tabF_nil _ _)))) fun args sp h hp => by
  unfold S_spec_l5Row at h
  split at h
  · rename_i L Z W G id
    cases h
    simp only [Bool.and_eq_true, decide_eq_true_eq] at hp
    obtain ⟨hb, hid⟩ := hp
    have hP := planB_iff.1 hb
    have hw := winOf_in id hP
    have hz : 1 ≤ Z ∧ Z ≤ 16 ∧ 0 ≤ L ∧ L < 1000 := ⟨hP.2.1.1, hP.2.1.2, by have := hP.1; omega, by have := hP.1; omega⟩
    have hc := hP.2.2.1
    refine ⟨rfl, 0, (spec_l5Row_run _ _ _ _ _ _).trans ?_⟩
    unfold spec_l5Row_T rowPl
    simp only [Bool.cond_eq_ite, decide_eq_true_eq, Bool.and_eq_true]
    rw [if_pos hz]
    by_cases hi : id < cnt L Z
    · rw [if_pos hi, if_pos hi]
    · rw [if_neg hi, if_neg hi, if_pos ⟨hb, hid⟩, if_pos ⟨⟨hw.1, by omega⟩, hid.1, by omega⟩]
  · cases h
theorem K_spec_PlanRow : Sound1 Try.prog EKs F_spec_PlanRow.f S_spec_PlanRow := snd ok_spec_PlanRow [(F_spec_PlanOk.f, S_spec_PlanOk), (F_spec_l1In.f, S_spec_l1In), (F_spec_l5Row.f, S_spec_l5Row)] (tabF_cons K_spec_PlanOk (tabF_cons K_spec_l1In (tabF_cons K_spec_l5Row (tabF_nil _ _)))) fun args sp h hp => by
  unfold S_spec_PlanRow at h
  split at h
  · rename_i L Z W G id
    cases h
    have hp : (sm W.length && sm G.length) = true := hp
    refine ⟨rfl, 0, (spec_PlanRow_run _ _ _ _ _ _).trans ?_⟩
    unfold spec_PlanRow_T rowPS
    rw [hp]
    cases hb : planB L Z W G with
    | false => rfl
    | true =>
      cases hd : inB id 0 9999 with
      | false => rfl
      | true => rw [decide_eq_true (inB_of.1 hd)]; rfl
  · cases h
theorem rowS_eq {c s : Int} (hc : 1 ≤ c ∧ c ≤ 24) (hs : 0 ≤ s ∧ s < 2147483648) : rowS c s = rowDr c s := by
  unfold rowS
  rw [inBt hc, inBt ⟨hs.1, by omega⟩]; rfl
theorem K_impl_PlanRow : Sound1 Try.prog EKs F_impl_PlanRow.f S_impl_PlanRow := snd ok_impl_PlanRow [(F_impl_PlanOk.f, S_impl_PlanOk), (F_impl_within.f, S_impl_within), (F_impl_Plan_count.f, S_impl_Plan_count), (F_impl_SeedPick.f, S_impl_SeedPick), (F_impl_SeedNext.f, S_impl_SeedNext), (F_impl_RowDraw.f, S_impl_RowDraw)]
    (tabF_cons K_impl_PlanOk (tabF_cons K_impl_within (tabF_cons K_impl_Plan_count (tabF_cons K_impl_SeedPick (tabF_cons K_impl_SeedNext (tabF_cons K_impl_RowDraw (tabF_nil _ _))))))) fun args sp h hp => by
  unfold S_impl_PlanRow S_spec_PlanRow at h
  split at h
  · rename_i L Z W G id
    cases h
    have hp : (sm W.length && sm G.length) = true := hp
    refine ⟨rfl, 10, (impl_PlanRow_run _ _ _ _ _ _).trans ?_⟩
    unfold impl_PlanRow_T rowPS
    rw [hp]
    cases hb : planB L Z W G with
    | false => rfl
    | true =>
      cases hd : inB id 0 9999 with
      | false => rfl
      | true =>
        have hid := inB_of.1 hd
        have hP := planB_iff.1 hb
        have hG := planP_wgt hP
        have hs := planP_sum hP
        have hgl := hP.2.2.2.2.1
        have hwl := hP.2.2.2.1
        have hw := winOf_in id hP
        have hc := hP.2.2.1
        have hz : 1 ≤ Z ∧ Z ≤ 16 ∧ 0 ≤ L ∧ L < 1000 := ⟨hP.2.1.1, hP.2.1.2, by have := hP.1; omega, by have := hP.1; omega⟩
        have hn := nxt_in (s := id)
        have hpk := pck_in (s := nxt id) (n := G.sum) hs.1
        simp only [cond_true, Bool.not_true, cond_false, Bool.and_self]
        rw [decide_eq_true hz]
        unfold rowPl
        by_cases hi : id < cnt L Z
        · rw [decide_eq_true hi, if_pos hi]; rfl
        rw [decide_eq_false hi, if_neg hi]
        have fin : rowS (winOf L Z W G id) id = rowDr (winOf L Z W G id) id := rowS_eq ⟨hw.1, by omega⟩ ⟨hid.1, by omega⟩
        show impl_PlanRow_W7 10 10 (0, (G.length : Int), G, 0, id, L, Z, W, G) = some ([Is (rowDr (winOf L Z W G id) id)], [])
        have loop2 : impl_PlanRow_W14 10 10 (0, (G.length : Int), G, 0, pck (nxt id) G.sum, id, L, Z, W, G) = some ([Is (rowDr (winOf L Z W G id) id)], []) := by
          refine fix10 (T := fun k => impl_PlanRow_T14 k) (fun i n l s p id' L' Z' W' G' => (n = G.length ∧ l = G ∧ p = pck (nxt id) G.sum ∧ id' = id ∧ L' = L ∧ Z' = Z ∧ W' = W ∧ G' = G) ∧ (0 ≤ i ∧ i ≤ G.length) ∧ (0 ≤ s ∧ s ≤ pck (nxt id) G.sum) ∧ s + (G.drop i.toNat).sum = G.sum ∧ winAt (W.drop i.toNat) (G.drop i.toNat) (pck (nxt id) G.sum - s) (cnt L Z) = winOf L Z W G id) (fun i _ _ _ _ _ _ _ _ _ => (G.length - i).toNat) (fun _ _ _ _ _ _ _ _ _ _ => ([Is (rowDr (winOf L Z W G id) id)], [])) ?_ _ _ _ _ _ _ _ _ _ _ _ ⟨⟨rfl, rfl, rfl, rfl, rfl, rfl, rfl, rfl⟩, ⟨by omega, by omega⟩, ⟨by omega, hpk.1⟩, by rw [Int.toNat_zero, List.drop_zero]; omega, by rw [Int.sub_zero]; rfl⟩ (by omega)
          intro i n l s p id' L' Z' W' G' K hI hK
          obtain ⟨⟨e1, e2, e3, e4, e5, e6, e7, e8⟩, ⟨q0, q1⟩, ⟨q2, q3⟩, q4, q5⟩ := hI
          rw [e1, e2, e3, e4, e5, e6, e7, e8]
          unfold impl_PlanRow_T14
          simp only [Bool.cond_eq_ite, decide_eq_true_eq]
          by_cases hi2 : i < (G.length : Int)
          · have hg := hG _ (show G.getD i.toNat 0 ∈ G by rw [getD_lt (show i.toNat < G.length by omega)]; exact List.getElem_mem _)
            rw [drop_at (show i.toNat < G.length by omega) 0, drop_at (show i.toNat < W.length by omega) 0, winAt_cons] at q5
            rw [drop_at (show i.toNat < G.length by omega) 0, List.sum_cons] at q4
            rw [if_pos hi2, if_pos q0, if_pos hi2, w64 (x := s + _) (by omega) (by omega)]
            by_cases c : s + G.getD i.toNat 0 > pck (nxt id) G.sum
            · rw [if_pos c]
              rw [if_pos (by omega)] at q5
              rw [if_pos q0, if_pos (by omega), q5, fin]
            · rw [if_neg c]
              rw [if_neg (by omega)] at q5
              rw [w64i q0 (by omega)]
              refine hK _ _ _ _ _ _ _ _ _ _ ⟨⟨rfl, rfl, rfl, rfl, rfl, rfl, rfl, rfl⟩, ⟨by omega, by omega⟩, ⟨by omega, by omega⟩, by rw [toNat_succ q0]; omega, ?_⟩ (by omega)
              rw [toNat_succ q0, ← q5]
              congr 1; omega
          · rw [List.drop_eq_nil_of_le (show G.length ≤ i.toNat by omega)] at q4
            simp only [List.sum_nil] at q4
            omega
        refine fix9 (T := fun k => impl_PlanRow_T7 k (impl_PlanRow_W14 10 10)) (fun i n l s id' L' Z' W' G' => (n = G.length ∧ l = G ∧ id' = id ∧ L' = L ∧ Z' = Z ∧ W' = W ∧ G' = G) ∧ (0 ≤ i ∧ i ≤ G.length) ∧ 0 ≤ s ∧ s + (G.drop i.toNat).sum = G.sum) (fun i _ _ _ _ _ _ _ _ => (G.length - i).toNat) (fun _ _ _ _ _ _ _ _ _ => ([Is (rowDr (winOf L Z W G id) id)], [])) ?_ _ _ _ _ _ _ _ _ _ _ ⟨⟨rfl, rfl, rfl, rfl, rfl, rfl, rfl⟩, ⟨by omega, by omega⟩, by omega, by rw [Int.toNat_zero, List.drop_zero]; omega⟩ (by omega)
        intro i n l s id' L' Z' W' G' K hI hK
        obtain ⟨⟨e1, e2, e3, e4, e5, e6, e7⟩, ⟨q0, q1⟩, q2, q3⟩ := hI
        rw [e1, e2, e3, e4, e5, e6, e7]
        unfold impl_PlanRow_T7
        simp only [Bool.cond_eq_ite, decide_eq_true_eq]
        have hsd := sum_drop hG i.toNat
        by_cases hi2 : i < (G.length : Int)
        · have hg := hG _ (show G.getD i.toNat 0 ∈ G by rw [getD_lt (show i.toNat < G.length by omega)]; exact List.getElem_mem _)
          have hsd2 := sum_drop hG (i.toNat + 1)
          rw [drop_at (show i.toNat < G.length by omega) 0, List.sum_cons] at q3
          rw [if_pos hi2, if_pos q0, if_pos hi2, w64i q0 (by omega), w64 (x := s + _) (by omega) (by omega)]
          exact hK _ _ _ _ _ _ _ _ _ ⟨⟨rfl, rfl, rfl, rfl, rfl, rfl, rfl⟩, ⟨by omega, by omega⟩, by omega, by rw [toNat_succ q0]; omega⟩ (by omega)
        · rw [List.drop_eq_nil_of_le (show G.length ≤ i.toNat by omega)] at q3
          have es : s = G.sum := by rw [← q3]; simp
          rw [if_neg hi2, es, nextS_eq ⟨hid.1, by omega⟩, pickS_eq hn ⟨hs.1, by omega⟩]
          exact loop2
  · cases h
end Go.Proofs.Ythcahoeoofggjaa.V
