/- What functions come to, and that they do so; conditions: those that each theorem states. -/
import Derived.Test.YthcahoeoofggjaaKeSrt
set_option linter.unusedVariables false
set_option linter.unusedSimpArgs false
namespace Go.Proofs.Ythcahoeoofggjaa.V
open Go Vx Vx.N
/-! ### Drawn rows, walked -/
theorem into_split : ∀ (l : List Int) (n : Int) (k : Nat), k ≤ l.length → (∀ j, j < k → l.getD j 0 < n) → (k < l.length → ¬ l.getD k 0 < n) → into l n = l.take k ++ [n] ++ l.drop k
  | [], n, k, hk, _, _ => by
    have : k = 0 := by simpa using hk
    subst this; rfl
  | x :: l, n, 0, _, _, h2 => by
    unfold into
    rw [if_neg (show ¬ x < n from h2 (by simp))]; rfl
  | x :: l, n, k + 1, hk, h1, h2 => by
    unfold into
    rw [if_pos (show x < n from h1 0 (by omega)), into_split l n k (by simpa using hk) (fun j hj => h1 (j + 1) (by omega)) (fun hl => h2 (by simpa using hl))]
    rfl
theorem K_spec_l4Into : Sound1 Try.prog EKs F_spec_l4Into.f S_spec_l4Into := snd ok_spec_l4Into [] (tabF_nil _ _) fun args sp h hp => by
  unfold S_spec_l4Into at h
  split at h
  · rename_i l n
    cases h
    have hl : l.length < 1000000 := of_decide_eq_true hp
    refine ⟨rfl, l.length + 1, (spec_l4Into_run _ _ _).trans ?_⟩
    refine fix3 (T := fun k => spec_l4Into_T2 k) (fun k n' l' => (n' = n ∧ l' = l) ∧ (0 ≤ k ∧ k ≤ l.length) ∧ ∀ j, j < k.toNat → l.getD j 0 < n) (fun k _ _ => (l.length - k).toNat) (fun _ _ _ => ([Is (into l n)], [])) ?_ _ _ _ _ ⟨⟨rfl, rfl⟩, ⟨by omega, by omega⟩, fun j hj => by rw [Int.toNat_zero] at hj; omega⟩ (by omega)
    intro k n' l' K hI hK
    obtain ⟨⟨e1, e2⟩, ⟨q0, q1⟩, q2⟩ := hI
    rw [e1, e2]
    unfold spec_l4Into_T2
    simp only [Bool.cond_eq_ite, decide_eq_true_eq, List.nil_append, List.drop_zero, Int.toNat_natCast, List.take_length]
    have fin : (k.toNat < l.length → ¬ l.getD k.toNat 0 < n) → (if 0 ≤ k then if k ≤ (l.length : Int) then if 0 + (l.take k.toNat).length < 1099511627776 then if (l.take k.toNat).length + 1 < 1099511627776 then if 0 ≤ k then if k ≤ (l.length : Int) then if (l.length : Int) ≤ l.length then if (l.take k.toNat ++ [n]).length + (l.drop k.toNat).length < 1099511627776 then some ([Is (l.take k.toNat ++ [n] ++ l.drop k.toNat)], []) else none else none else none else none else none else none else none else none) = (some ([Is (into l n)], []) : Rs) := fun h2 => by
      have a1 : (l.take k.toNat).length = k.toNat := by rw [List.length_take]; omega
      have a2 : (l.take k.toNat ++ [n]).length = k.toNat + 1 := by rw [List.length_append, a1]; rfl
      have a3 : (l.drop k.toNat).length = l.length - k.toNat := List.length_drop
      rw [if_pos q0, if_pos q1, if_pos (by omega), if_pos (by omega), if_pos q0, if_pos q1, if_pos (Int.le_refl _), if_pos (by omega), into_split l n k.toNat (by omega) q2 h2]
    by_cases hk : k < (l.length : Int)
    · rw [if_pos hk, if_pos q0, if_pos hk]
      by_cases c : l.getD k.toNat 0 < n
      · rw [if_pos c, w64i q0 (by omega)]
        refine hK _ _ _ ⟨⟨rfl, rfl⟩, ⟨by omega, by omega⟩, fun j hj => ?_⟩ (by omega)
        by_cases e : j = k.toNat
        · rw [e]; exact c
        · exact q2 j (by omega)
      · rw [if_neg c]
        exact fin fun _ => c
    · rw [if_neg hk]
      exact fin fun h => by omega
  · cases h
theorem less_eq (l : List Int) (k : Int) (hk : 0 ≤ k) : [] ++ List.drop 0 (l.take k.toNat) ++ List.drop (k + 1).toNat (l.take ((l.length : Int)).toNat) = lessAt l k.toNat := by
  rw [List.nil_append, List.drop_zero, Int.toNat_natCast, List.take_length, toNat_succ hk]; rfl
theorem K_spec_l4Row : Sound1 Try.prog EKs F_spec_l4Row.f S_spec_l4Row := snd ok_spec_l4Row [(F_spec_l4Next.f, S_spec_l4Next), (F_spec_l4Pick.f, S_spec_l4Pick), (F_spec_l4Degree.f, S_spec_l4Degree), (F_spec_l4Into.f, S_spec_l4Into)] (tabF_cons K_spec_l4Next (tabF_cons K_spec_l4Pick (tabF_cons K_spec_l4Degree (tabF_cons K_spec_l4Into (tabF_nil _ _))))) fun args sp h hp => by
  unfold S_spec_l4Row at h
  split at h
  · rename_i c s
    cases h
    obtain ⟨hc, hs⟩ := of_decide_eq_true hp
    have hp1 := pck_in (s := nxt (nxt s)) (n := 65536) (by omega)
    have hd := deg_in hc hp1
    have hn1 := nxt_in (s := s)
    have hn2 := nxt_in (s := nxt s)
    refine ⟨rfl, 30, (spec_l4Row_run _ _ _).trans ?_⟩
    unfold spec_l4Row_T
    simp only [Bool.cond_eq_ite, decide_eq_true_eq]
    rw [if_pos hs, if_pos hn1, if_pos ⟨hn2, by omega, by omega⟩, if_pos ⟨hc, hp1⟩]
    have hrd : rowGo (nxt (nxt s)) (upTo c.toNat) [] (degAt (degs c) (pck (nxt (nxt s)) 65536) 1).toNat = rowDr c s := rfl
    generalize degAt (degs c) (pck (nxt (nxt s)) 65536) 1 = D at *
    show spec_l4Row_W5 30 30 (0, D, nxt (nxt s), c, []) = _
    -- the drawing
    have loop2 : spec_l4Row_W10 30 30 (0, D, nxt (nxt s), [], upTo c.toNat) = some ([Is (rowDr c s)], []) := by
      refine fix5 (T := fun k => spec_l4Row_T10 k) (fun i d t out l => d = D ∧ (0 ≤ i ∧ i ≤ D) ∧ (0 ≤ t ∧ t < 2147483648) ∧ ((l.length : Int) = c - i ∧ (out.length : Int) = i) ∧ rowGo t l out (D - i).toNat = rowDr c s) (fun i _ _ _ _ => (D - i).toNat) (fun _ _ _ _ _ => ([Is (rowDr c s)], [])) ?_ _ _ _ _ _ _ ⟨rfl, ⟨by omega, by omega⟩, hn2, ⟨by rw [upTo_len]; omega, rfl⟩, by rw [Int.sub_zero]; exact hrd⟩ (by omega)
      intro i d t out l K hI hK
      obtain ⟨e1, ⟨q0, q1⟩, q2, ⟨q3, q4⟩, q5⟩ := hI
      rw [e1]
      unfold spec_l4Row_T10
      dsimp only
      have hnt := nxt_in (s := t)
      by_cases hi : i < D
      · have hk := pck_in (s := nxt t) (n := (l.length : Int)) (by omega)
        have hkl : (pck (nxt t) l.length).toNat < l.length := by omega
        have a1 : (List.drop 0 (l.take (pck (nxt t) l.length).toNat)).length ≤ 24 := by rw [List.drop_zero, List.length_take]; omega
        have a2 : ([] ++ List.drop 0 (l.take (pck (nxt t) l.length).toNat)).length + (List.drop (pck (nxt t) l.length + 1).toNat (l.take ((l.length : Int)).toNat)).length < 1099511627776 := by
          simp only [List.nil_append, List.length_drop, List.length_take]; omega
        rw [decide_eq_true hi, decide_eq_true q2, decide_eq_true (⟨hnt, by omega, by omega⟩ : (0 ≤ nxt t ∧ nxt t < 2147483648) ∧ 1 ≤ (l.length : Int) ∧ (l.length : Int) ≤ 65536), decide_eq_true hk.1, decide_eq_true hk.2, decide_eq_true (show out.length < 1000000 by omega), decide_eq_true (show pck (nxt t) l.length ≤ (l.length : Int) by omega), decide_eq_true (show 0 + (List.drop 0 (l.take (pck (nxt t) l.length).toNat)).length < 1099511627776 by omega),
          w64i hk.1 (by omega), decide_eq_true (show 0 ≤ pck (nxt t) l.length + 1 by omega), decide_eq_true (show pck (nxt t) l.length + 1 ≤ (l.length : Int) by omega), decide_eq_true (Int.le_refl _), decide_eq_true a2, w64i q0 (by omega), less_eq l _ hk.1]
        have hll := less_len hkl
        refine hK _ _ _ _ _ ⟨rfl, ⟨by omega, by omega⟩, hnt, ⟨by omega, by rw [into_len]; omega⟩, ?_⟩ (by omega)
        rw [show (D - i).toNat = (D - (i + 1)).toNat + 1 by omega] at q5
        exact q5
      · rw [decide_eq_false hi]
        rw [show (D - i).toNat = 0 by omega] at q5
        rw [← q5]; rfl
    refine fix5 (T := fun k => spec_l4Row_T5 k (spec_l4Row_W10 30 30)) (fun i d t c' l => (d = D ∧ t = nxt (nxt s) ∧ c' = c) ∧ (0 ≤ i ∧ i ≤ c) ∧ l = upTo i.toNat) (fun i _ _ _ _ => (c - i).toNat) (fun _ _ _ _ _ => ([Is (rowDr c s)], [])) ?_ _ _ _ _ _ _ ⟨⟨rfl, rfl, rfl⟩, ⟨by omega, by omega⟩, rfl⟩ (by omega)
    intro i d t c' l K hI hK
    obtain ⟨⟨e1, e2, e3⟩, ⟨q0, q1⟩, e4⟩ := hI
    rw [e1, e2, e3, e4]
    unfold spec_l4Row_T5
    dsimp only
    by_cases hi : i < c
    · rw [decide_eq_true hi, decide_eq_true (show (upTo i.toNat).length + 1 < 1099511627776 by rw [upTo_len]; omega), w64i q0 (by omega)]
      refine hK _ _ _ _ _ ⟨⟨rfl, rfl, rfl⟩, ⟨by omega, by omega⟩, ?_⟩ (by omega)
      rw [toNat_succ q0, upTo_succ, Int.toNat_of_nonneg q0]
    · rw [decide_eq_false hi, show i = c by omega]
      exact loop2
  · cases h
theorem K_spec_RowDraw : Sound1 Try.prog EKs F_spec_RowDraw.f S_spec_RowDraw := snd ok_spec_RowDraw [(F_spec_l1In.f, S_spec_l1In), (F_spec_l4Row.f, S_spec_l4Row)] (tabF_cons K_spec_l1In (tabF_cons K_spec_l4Row (tabF_nil _ _))) fun args sp h hp => by
  unfold S_spec_RowDraw at h
  split at h
  · rename_i c s
    cases h
    refine ⟨rfl, 0, (spec_RowDraw_run _ _ _).trans ?_⟩
    unfold spec_RowDraw_T rowS
    cases hb : inB c 1 24 with
    | false => rfl
    | true =>
      cases hd : inB s 0 2147483647 with
      | false => rfl
      | true =>
        have h1 := inB_of.1 hb
        have h2 := inB_of.1 hd
        rw [decide_eq_true (⟨h1, h2.1, by omega⟩ : (1 ≤ c ∧ c ≤ 24) ∧ 0 ≤ s ∧ s < 2147483648)]; rfl
  · cases h
theorem nextS_eq {s : Int} (h : 0 ≤ s ∧ s < 2147483648) : nextS s = nxt s := by
  unfold nextS
  rw [inBt ⟨h.1, by omega⟩]
theorem pickS_eq {s n : Int} (h : 0 ≤ s ∧ s < 2147483648) (hn : 1 ≤ n ∧ n ≤ 65536) : pickS s n = pck s n := by
  unfold pickS
  rw [inBt ⟨h.1, by omega⟩, inBt hn]; rfl
theorem degS_eq {c p : Int} (hc : 1 ≤ c ∧ c ≤ 24) (hp : 0 ≤ p ∧ p < 65536) : degS c p = degAt (degs c) p 1 := by
  unfold degS degsS
  rw [inBt ⟨hp.1, by omega⟩, inBt hc]
theorem K_impl_RowDraw : Sound1 Try.prog EKs F_impl_RowDraw.f S_impl_RowDraw := snd ok_impl_RowDraw [(F_impl_within.f, S_impl_within), (F_impl_SeedNext.f, S_impl_SeedNext), (F_impl_SeedPick.f, S_impl_SeedPick), (F_impl_DegreeOf.f, S_impl_DegreeOf), (F_slices_Delete.f, S_slices_Delete), (F_slices_Sort.f, S_slices_Sort)]
    (tabF_cons K_impl_within (tabF_cons K_impl_SeedNext (tabF_cons K_impl_SeedPick (tabF_cons K_impl_DegreeOf (tabF_cons K_slices_Delete (tabF_cons K_slices_Sort (tabF_nil _ _))))))) fun args sp h hp => by
  unfold S_impl_RowDraw S_spec_RowDraw at h
  split at h
  · rename_i c s
    cases h
    refine ⟨rfl, 30, (impl_RowDraw_run _ _ _).trans ?_⟩
    unfold impl_RowDraw_T rowS
    cases hb : inB c 1 24 with
    | false => rfl
    | true =>
      cases hdd : inB s 0 2147483647 with
      | false => rfl
      | true =>
        have hc := inB_of.1 hb
        have hs0 := inB_of.1 hdd
        have hs : 0 ≤ s ∧ s < 2147483648 := ⟨hs0.1, by omega⟩
        have hp1 := pck_in (s := nxt (nxt s)) (n := 65536) (by omega)
        have hd := deg_in hc hp1
        have hn1 := nxt_in (s := s)
        have hn2 := nxt_in (s := nxt s)
        have hrd : rowGo (nxt (nxt s)) (upTo c.toNat) [] (degAt (degs c) (pck (nxt (nxt s)) 65536) 1).toNat = rowDr c s := rfl
        have hDe := degS_eq hc hp1
        rw [nextS_eq hs, nextS_eq hn1]
        show impl_RowDraw_W7 30 30 (0, c, nxt (nxt s), c, [], []) = some ([Is (rowDr c s)], [])
        have loop2 : impl_RowDraw_W12 30 30 (0, degAt (degs c) (pck (nxt (nxt s)) 65536) 1, nxt (nxt s), upTo c.toNat, []) = some ([Is (rowDr c s)], []) := by
          generalize degAt (degs c) (pck (nxt (nxt s)) 65536) 1 = D at *
          refine fix5 (T := fun k => impl_RowDraw_T12 k) (fun i d t l out => d = D ∧ (0 ≤ i ∧ i ≤ D) ∧ (0 ≤ t ∧ t < 2147483648) ∧ (l.length : Int) = c - i ∧ ∃ ins, RowI c l ins ∧ out.Perm ins ∧ (ins.length : Int) = i ∧ rowGo t l ins (D - i).toNat = rowDr c s) (fun i _ _ _ _ => (D - i).toNat) (fun _ _ _ _ _ => ([Is (rowDr c s)], [])) ?_ _ _ _ _ _ _ ⟨rfl, ⟨by omega, by omega⟩, hn2, by rw [upTo_len]; omega, [], ⟨upTo_nodup _, fun x hx => by have := upTo_mem.1 hx; omega, List.Pairwise.nil, fun x hx => (by cases hx), fun x hx => (by cases hx)⟩, List.Perm.refl _, rfl, by rw [Int.sub_zero]; exact hrd⟩ (by omega)
          intro i d t l out K hI hK
          obtain ⟨e1, ⟨q0, q1⟩, q2, q3, ins, q4, q5, q6, q7⟩ := hI
          rw [e1]
          unfold impl_RowDraw_T12
          dsimp only
          have hnt := nxt_in (s := t)
          have hol := q5.length_eq
          by_cases hi : i < D
          · have hk := pck_in (s := nxt t) (n := (l.length : Int)) (by omega)
            have hkl : (pck (nxt t) l.length).toNat < l.length := by omega
            have hll := less_len hkl
            rw [nextS_eq q2, pickS_eq hnt (n := (l.length : Int)) ⟨by omega, by omega⟩, decide_eq_true hi, decide_eq_true hk.1, decide_eq_true hk.2, decide_eq_true (show out.length + 1 < 1099511627776 by omega), w64i hk.1 (by omega),
              decide_eq_true (⟨⟨hk.1, by omega⟩, by omega, by omega, by omega⟩ : (0 ≤ pck (nxt t) l.length ∧ pck (nxt t) l.length ≤ pck (nxt t) l.length + 1) ∧ pck (nxt t) l.length + 1 ≤ (l.length : Int) ∧ 0 < l.length ∧ l.length < 1000000), w64i q0 (by omega), toNat_succ hk.1]
            refine hK _ _ _ _ _ ⟨rfl, ⟨by omega, by omega⟩, hnt, by show ((lessAt l _).length : Int) = _; omega, into ins (l.getD (pck (nxt t) l.length).toNat 0), q4.step hkl, (q5.append_right _).trans (into_perm ins _).symm, by rw [into_len]; omega, ?_⟩ (by omega)
            rw [show (D - i).toNat = (D - (i + 1)).toNat + 1 by omega] at q7
            exact q7
          · have hsort := sortI_eq q5 q4.up
            rw [show (D - i).toNat = 0 by omega] at q7
            have hins : ins = rowDr c s := q7
            have hbeq : Nat.beq (rowDr c s).length out.length = true := by rw [← hins, hol]; exact Nat.beq_refl _
            rw [decide_eq_false hi, decide_eq_true (show out.length < 1000000 by omega), hsort, hins, hbeq]; rfl
        refine fix6 (T := fun k => impl_RowDraw_T7 k (impl_RowDraw_W12 30 30)) (fun i n t c' l o => (n = c ∧ t = nxt (nxt s) ∧ c' = c ∧ o = []) ∧ (0 ≤ i ∧ i ≤ c) ∧ l = upTo i.toNat) (fun i _ _ _ _ _ => (c - i).toNat) (fun _ _ _ _ _ _ => ([Is (rowDr c s)], [])) ?_ _ _ _ _ _ _ _ ⟨⟨rfl, rfl, rfl, rfl⟩, ⟨by omega, by omega⟩, rfl⟩ (by omega)
        intro i n t c' l o K hI hK
        obtain ⟨⟨e1, e2, e3, e5⟩, ⟨q0, q1⟩, e4⟩ := hI
        rw [e1, e2, e3, e4, e5]
        unfold impl_RowDraw_T7
        dsimp only
        by_cases hi : i < c
        · rw [decide_eq_true hi, decide_eq_true (show (upTo i.toNat).length + 1 < 1099511627776 by rw [upTo_len]; omega), w64i q0 (by omega)]
          refine hK _ _ _ _ _ _ ⟨⟨rfl, rfl, rfl, rfl⟩, ⟨by omega, by omega⟩, ?_⟩ (by omega)
          rw [toNat_succ q0, upTo_succ, Int.toNat_of_nonneg q0]
        · rw [decide_eq_false hi, show i = c by omega, pickS_eq hn2 ⟨by omega, by omega⟩, hDe]
          exact loop2
  · cases h
end Go.Proofs.Ythcahoeoofggjaa.V
namespace Go.Proofs.Ythcahoeoofggjaa.V
open Go Vx Vx.N
/-! ### Rows of a plan, walked -/
theorem winAt_cons (w : Int) (W : List Int) (g : Int) (G : List Int) (k z : Int) : winAt (w :: W) (g :: G) k z = if k < g then w else winAt W G (k - g) z := rfl
theorem sum_drop {G : List Int} (h : ∀ g ∈ G, 1 ≤ g ∧ g ≤ 99) (i : Nat) : 0 ≤ (G.drop i).sum := by
  have := sum_in (G := G.drop i) fun g hg => h g (List.mem_of_mem_drop hg)
  omega
theorem K_spec_l5Window : Sound1 Try.prog EKs F_spec_l5Window.f S_spec_l5Window := snd ok_spec_l5Window [(F_spec_l4Pick.f, S_spec_l4Pick), (F_spec_l4Next.f, S_spec_l4Next), (F_spec_l5Count.f, S_spec_l5Count)] (tabF_cons K_spec_l4Pick (tabF_cons K_spec_l4Next (tabF_cons K_spec_l5Count (tabF_nil _ _)))) fun args sp h hp => by
  unfold S_spec_l5Window at h
  split at h
  · rename_i L Z W G id
    cases h
    simp only [Bool.and_eq_true, decide_eq_true_eq] at hp
    obtain ⟨hb, hid⟩ := hp
    have hP := planB_iff.1 hb
    have hG := planP_wgt hP
    have hs := planP_sum hP
    have hgl := hP.2.2.2.2.1
    have hwl := hP.2.2.2.1
    have hz : 1 ≤ Z ∧ Z ≤ 16 ∧ 0 ≤ L ∧ L < 1000 := ⟨hP.2.1.1, hP.2.1.2, by have := hP.1; omega, by have := hP.1; omega⟩
    have hn := nxt_in (s := id)
    have hpk := pck_in (s := nxt id) (n := G.sum) hs.1
    refine ⟨rfl, 10, (spec_l5Window_run _ _ _ _ _ _).trans ?_⟩
    have loop2 : spec_l5Window_W8 10 10 (0, pck (nxt id) G.sum, L, Z, W, G) = some ([I (winOf L Z W G id)], []) := by
      refine fix6 (T := fun k => spec_l5Window_T8 k) (fun i k L' Z' W' G' => (L' = L ∧ Z' = Z ∧ W' = W ∧ G' = G) ∧ (0 ≤ i ∧ i ≤ G.length) ∧ (0 ≤ k ∧ k ≤ 297) ∧ winAt (W.drop i.toNat) (G.drop i.toNat) k (cnt L Z) = winOf L Z W G id) (fun i _ _ _ _ _ => (G.length - i).toNat) (fun _ _ _ _ _ _ => ([I (winOf L Z W G id)], [])) ?_ _ _ _ _ _ _ _ ⟨⟨rfl, rfl, rfl, rfl⟩, ⟨by omega, by omega⟩, ⟨hpk.1, by omega⟩, rfl⟩ (by omega)
      intro i k L' Z' W' G' K hI hK
      obtain ⟨⟨e1, e2, e3, e4⟩, ⟨q0, q1⟩, ⟨q2, q3⟩, q4⟩ := hI
      rw [e1, e2, e3, e4]
      unfold spec_l5Window_T8
      simp only [Bool.cond_eq_ite, decide_eq_true_eq]
      by_cases hi : i < (G.length : Int)
      · have hg := hG _ (show G.getD i.toNat 0 ∈ G by rw [getD_lt (show i.toNat < G.length by omega)]; exact List.getElem_mem _)
        rw [drop_at (show i.toNat < G.length by omega) 0, drop_at (show i.toNat < W.length by omega) 0, winAt_cons] at q4
        rw [if_pos hi, if_pos q0, if_pos hi]
        by_cases c : k < G.getD i.toNat 0
        · rw [if_pos c] at q4 ⊢
          rw [if_pos q0, if_pos (by omega), q4]
        · rw [if_neg c] at q4 ⊢
          rw [if_pos q0, if_pos hi, w64i q0 (by omega), w64 (x := k - _) (by omega) (by omega)]
          exact hK _ _ _ _ _ _ ⟨⟨rfl, rfl, rfl, rfl⟩, ⟨by omega, by omega⟩, ⟨by omega, by omega⟩, by rw [toNat_succ q0]; exact q4⟩ (by omega)
      · rw [if_neg hi, if_pos hz]
        rw [List.drop_eq_nil_of_le (show W.length ≤ i.toNat by omega)] at q4
        rw [← q4]; rfl
    refine fix7 (T := fun k => spec_l5Window_T3 k (spec_l5Window_W8 10 10)) (fun i s id' L' Z' W' G' => (id' = id ∧ L' = L ∧ Z' = Z ∧ W' = W ∧ G' = G) ∧ (0 ≤ i ∧ i ≤ G.length) ∧ 0 ≤ s ∧ s + (G.drop i.toNat).sum = G.sum) (fun i _ _ _ _ _ _ => (G.length - i).toNat) (fun _ _ _ _ _ _ _ => ([I (winOf L Z W G id)], [])) ?_ _ _ _ _ _ _ _ _ ⟨⟨rfl, rfl, rfl, rfl, rfl⟩, ⟨by omega, by omega⟩, by omega, by rw [Int.toNat_zero, List.drop_zero]; omega⟩ (by omega)
    intro i s id' L' Z' W' G' K hI hK
    obtain ⟨⟨e0, e1, e2, e3, e4⟩, ⟨q0, q1⟩, q2, q3⟩ := hI
    rw [e0, e1, e2, e3, e4]
    unfold spec_l5Window_T3
    simp only [Bool.cond_eq_ite, decide_eq_true_eq]
    have hsd := sum_drop hG i.toNat
    by_cases hi : i < (G.length : Int)
    · have hg := hG _ (show G.getD i.toNat 0 ∈ G by rw [getD_lt (show i.toNat < G.length by omega)]; exact List.getElem_mem _)
      have hsd2 := sum_drop hG (i.toNat + 1)
      rw [drop_at (show i.toNat < G.length by omega) 0, List.sum_cons] at q3
      rw [if_pos hi, if_pos q0, if_pos hi, w64i q0 (by omega), w64 (x := s + _) (by omega) (by omega)]
      exact hK _ _ _ _ _ _ _ ⟨⟨rfl, rfl, rfl, rfl, rfl⟩, ⟨by omega, by omega⟩, by omega, by rw [toNat_succ q0]; omega⟩ (by omega)
    · rw [List.drop_eq_nil_of_le (show G.length ≤ i.toNat by omega)] at q3
      have es : s = G.sum := by rw [← q3]; simp
      rw [if_neg hi, es, if_pos ⟨hid.1, by omega⟩, if_pos ⟨hn, hs.1, by omega⟩]
      exact loop2
  · cases h
theorem K_spec_l5Row : Sound1 Try.prog EKs F_spec_l5Row.f S_spec_l5Row := snd ok_spec_l5Row [(F_spec_l5Count.f, S_spec_l5Count), (F_spec_l4Row.f, S_spec_l4Row), (F_spec_l5Window.f, S_spec_l5Window)] (tabF_cons K_spec_l5Count (tabF_cons K_spec_l4Row (tabF_cons K_spec_l5Window (tabF_nil _ _)))) fun args sp h hp => by
  unfold S_spec_l5Row at h
  split at h
  · rename_i L Z W G id
    cases h
    simp only [Bool.and_eq_true, decide_eq_true_eq] at hp
    obtain ⟨hb, hid⟩ := hp
    have hP := planB_iff.1 hb
    have hw := winOf_in id hP
    have hz : 1 ≤ Z ∧ Z ≤ 16 ∧ 0 ≤ L ∧ L < 1000 := ⟨hP.2.1.1, hP.2.1.2, by have := hP.1; omega, by have := hP.1; omega⟩
    have hc := hP.2.2.1
    refine ⟨rfl, 0, (spec_l5Row_run _ _ _ _ _ _).trans ?_⟩
    unfold spec_l5Row_T rowPl
    simp only [Bool.cond_eq_ite, decide_eq_true_eq, Bool.and_eq_true]
    rw [if_pos hz]
    by_cases hi : id < cnt L Z
    · rw [if_pos hi, if_pos hi]
    · rw [if_neg hi, if_neg hi, if_pos ⟨hb, hid⟩, if_pos ⟨⟨hw.1, by omega⟩, hid.1, by omega⟩]
  · cases h
theorem K_spec_PlanRow : Sound1 Try.prog EKs F_spec_PlanRow.f S_spec_PlanRow := snd ok_spec_PlanRow [(F_spec_PlanOk.f, S_spec_PlanOk), (F_spec_l1In.f, S_spec_l1In), (F_spec_l5Row.f, S_spec_l5Row)] (tabF_cons K_spec_PlanOk (tabF_cons K_spec_l1In (tabF_cons K_spec_l5Row (tabF_nil _ _)))) fun args sp h hp => by
  unfold S_spec_PlanRow at h
  split at h
  · rename_i L Z W G id
    cases h
    have hp : (sm W.length && sm G.length) = true := hp
    refine ⟨rfl, 0, (spec_PlanRow_run _ _ _ _ _ _).trans ?_⟩
    unfold spec_PlanRow_T rowPS
    rw [hp]
    cases hb : planB L Z W G with
    | false => rfl
    | true =>
      cases hd : inB id 0 9999 with
      | false => rfl
      | true => rw [decide_eq_true (inB_of.1 hd)]; rfl
  · cases h
theorem rowS_eq {c s : Int} (hc : 1 ≤ c ∧ c ≤ 24) (hs : 0 ≤ s ∧ s < 2147483648) : rowS c s = rowDr c s := by
  unfold rowS
  rw [inBt hc, inBt ⟨hs.1, by omega⟩]; rfl
theorem K_impl_PlanRow : Sound1 Try.prog EKs F_impl_PlanRow.f S_impl_PlanRow := snd ok_impl_PlanRow [(F_impl_PlanOk.f, S_impl_PlanOk), (F_impl_within.f, S_impl_within), (F_impl_Plan_count.f, S_impl_Plan_count), (F_impl_SeedPick.f, S_impl_SeedPick), (F_impl_SeedNext.f, S_impl_SeedNext), (F_impl_RowDraw.f, S_impl_RowDraw)]
    (tabF_cons K_impl_PlanOk (tabF_cons K_impl_within (tabF_cons K_impl_Plan_count (tabF_cons K_impl_SeedPick (tabF_cons K_impl_SeedNext (tabF_cons K_impl_RowDraw (tabF_nil _ _))))))) fun args sp h hp => by
  unfold S_impl_PlanRow S_spec_PlanRow at h
  split at h
  · rename_i L Z W G id
    cases h
    have hp : (sm W.length && sm G.length) = true := hp
    refine ⟨rfl, 10, (impl_PlanRow_run _ _ _ _ _ _).trans ?_⟩
    unfold impl_PlanRow_T rowPS
    rw [hp]
    cases hb : planB L Z W G with
    | false => rfl
    | true =>
      cases hd : inB id 0 9999 with
      | false => rfl
      | true =>
        have hid := inB_of.1 hd
        have hP := planB_iff.1 hb
        have hG := planP_wgt hP
        have hs := planP_sum hP
        have hgl := hP.2.2.2.2.1
        have hwl := hP.2.2.2.1
        have hw := winOf_in id hP
        have hc := hP.2.2.1
        have hz : 1 ≤ Z ∧ Z ≤ 16 ∧ 0 ≤ L ∧ L < 1000 := ⟨hP.2.1.1, hP.2.1.2, by have := hP.1; omega, by have := hP.1; omega⟩
        have hn := nxt_in (s := id)
        have hpk := pck_in (s := nxt id) (n := G.sum) hs.1
        simp only [cond_true, Bool.not_true, cond_false, Bool.and_self]
        rw [decide_eq_true hz]
        unfold rowPl
        by_cases hi : id < cnt L Z
        · rw [decide_eq_true hi, if_pos hi]; rfl
        rw [decide_eq_false hi, if_neg hi]
        have fin : rowS (winOf L Z W G id) id = rowDr (winOf L Z W G id) id := rowS_eq ⟨hw.1, by omega⟩ ⟨hid.1, by omega⟩
        show impl_PlanRow_W7 10 10 (0, (G.length : Int), G, 0, id, L, Z, W, G) = some ([Is (rowDr (winOf L Z W G id) id)], [])
        have loop2 : impl_PlanRow_W14 10 10 (0, (G.length : Int), G, 0, pck (nxt id) G.sum, id, L, Z, W, G) = some ([Is (rowDr (winOf L Z W G id) id)], []) := by
          refine fix10 (T := fun k => impl_PlanRow_T14 k) (fun i n l s p id' L' Z' W' G' => (n = G.length ∧ l = G ∧ p = pck (nxt id) G.sum ∧ id' = id ∧ L' = L ∧ Z' = Z ∧ W' = W ∧ G' = G) ∧ (0 ≤ i ∧ i ≤ G.length) ∧ (0 ≤ s ∧ s ≤ pck (nxt id) G.sum) ∧ s + (G.drop i.toNat).sum = G.sum ∧ winAt (W.drop i.toNat) (G.drop i.toNat) (pck (nxt id) G.sum - s) (cnt L Z) = winOf L Z W G id) (fun i _ _ _ _ _ _ _ _ _ => (G.length - i).toNat) (fun _ _ _ _ _ _ _ _ _ _ => ([Is (rowDr (winOf L Z W G id) id)], [])) ?_ _ _ _ _ _ _ _ _ _ _ _ ⟨⟨rfl, rfl, rfl, rfl, rfl, rfl, rfl, rfl⟩, ⟨by omega, by omega⟩, ⟨by omega, hpk.1⟩, by rw [Int.toNat_zero, List.drop_zero]; omega, by rw [Int.sub_zero]; rfl⟩ (by omega)
          intro i n l s p id' L' Z' W' G' K hI hK
          obtain ⟨⟨e1, e2, e3, e4, e5, e6, e7, e8⟩, ⟨q0, q1⟩, ⟨q2, q3⟩, q4, q5⟩ := hI
          rw [e1, e2, e3, e4, e5, e6, e7, e8]
          unfold impl_PlanRow_T14
          simp only [Bool.cond_eq_ite, decide_eq_true_eq]
          by_cases hi2 : i < (G.length : Int)
          · have hg := hG _ (show G.getD i.toNat 0 ∈ G by rw [getD_lt (show i.toNat < G.length by omega)]; exact List.getElem_mem _)
            rw [drop_at (show i.toNat < G.length by omega) 0, drop_at (show i.toNat < W.length by omega) 0, winAt_cons] at q5
            rw [drop_at (show i.toNat < G.length by omega) 0, List.sum_cons] at q4
            rw [if_pos hi2, if_pos q0, if_pos hi2, w64 (x := s + _) (by omega) (by omega)]
            by_cases c : s + G.getD i.toNat 0 > pck (nxt id) G.sum
            · rw [if_pos c]
              rw [if_pos (by omega)] at q5
              rw [if_pos q0, if_pos (by omega), q5, fin]
            · rw [if_neg c]
              rw [if_neg (by omega)] at q5
              rw [w64i q0 (by omega)]
              refine hK _ _ _ _ _ _ _ _ _ _ ⟨⟨rfl, rfl, rfl, rfl, rfl, rfl, rfl, rfl⟩, ⟨by omega, by omega⟩, ⟨by omega, by omega⟩, by rw [toNat_succ q0]; omega, ?_⟩ (by omega)
              rw [toNat_succ q0, ← q5]
              congr 1; omega
          · rw [List.drop_eq_nil_of_le (show G.length ≤ i.toNat by omega)] at q4
            simp only [List.sum_nil] at q4
            omega
        refine fix9 (T := fun k => impl_PlanRow_T7 k (impl_PlanRow_W14 10 10)) (fun i n l s id' L' Z' W' G' => (n = G.length ∧ l = G ∧ id' = id ∧ L' = L ∧ Z' = Z ∧ W' = W ∧ G' = G) ∧ (0 ≤ i ∧ i ≤ G.length) ∧ 0 ≤ s ∧ s + (G.drop i.toNat).sum = G.sum) (fun i _ _ _ _ _ _ _ _ => (G.length - i).toNat) (fun _ _ _ _ _ _ _ _ _ => ([Is (rowDr (winOf L Z W G id) id)], [])) ?_ _ _ _ _ _ _ _ _ _ _ ⟨⟨rfl, rfl, rfl, rfl, rfl, rfl, rfl⟩, ⟨by omega, by omega⟩, by omega, by rw [Int.toNat_zero, List.drop_zero]; omega⟩ (by omega)
        intro i n l s id' L' Z' W' G' K hI hK
        obtain ⟨⟨e1, e2, e3, e4, e5, e6, e7⟩, ⟨q0, q1⟩, q2, q3⟩ := hI
        rw [e1, e2, e3, e4, e5, e6, e7]
        unfold impl_PlanRow_T7
        simp only [Bool.cond_eq_ite, decide_eq_true_eq]
        have hsd := sum_drop hG i.toNat
        by_cases hi2 : i < (G.length : Int)
        · have hg := hG _ (show G.getD i.toNat 0 ∈ G by rw [getD_lt (show i.toNat < G.length by omega)]; exact List.getElem_mem _)
          have hsd2 := sum_drop hG (i.toNat + 1)
          rw [drop_at (show i.toNat < G.length by omega) 0, List.sum_cons] at q3
          rw [if_pos hi2, if_pos q0, if_pos hi2, w64i q0 (by omega), w64 (x := s + _) (by omega) (by omega)]
          exact hK _ _ _ _ _ _ _ _ _ ⟨⟨rfl, rfl, rfl, rfl, rfl, rfl, rfl⟩, ⟨by omega, by omega⟩, by omega, by rw [toNat_succ q0]; omega⟩ (by omega)
        · rw [List.drop_eq_nil_of_le (show G.length ≤ i.toNat by omega)] at q3
          have es : s = G.sum := by rw [← q3]; simp
          rw [if_neg hi2, es, nextS_eq ⟨hid.1, by omega⟩, pickS_eq hn ⟨hs.1, by omega⟩]
          exact loop2
  · cases h
end Go.Proofs.Ythcahoeoofggjaa.V
namespace Go.Proofs.Ythcahoeoofggjaa.V
open Go Vx Vx.N
/-! ### Symbols -/
theorem K_impl_RowSum : Sound1 Try.prog EKs F_impl_RowSum.f S_impl_RowSum := snd ok_impl_RowSum [(F_impl_RowOk.f, S_impl_RowOk), (F_impl_zeros.f, S_impl_zeros), (F_impl_xor.f, S_impl_xor)] (tabF_cons K_impl_RowOk (tabF_cons K_impl_zeros (tabF_cons K_impl_xor (tabF_nil _ _)))) fun args sp h hp => by
  unfold S_impl_RowSum at h
  split at h
  · rename_i bl row
    cases h
    simp only [Bool.and_eq_true, decide_eq_true_eq] at hp
    obtain ⟨hbl, hrl⟩ := hp
    refine ⟨rfl, bl.length + 30, (impl_RowSum_run _ _ _).trans ?_⟩
    unfold impl_RowSum_T
    have no : ¬ SumP bl row → sumS bl row = (⟨#[]⟩, false) := fun h => by unfold sumS; rw [cdec_f h]
    simp only [Bool.cond_eq_ite, decide_eq_true_eq, Bool.not_eq_true', beq_iff_eq, decide_eq_false_iff_not]
    by_cases h1 : (bl.length : Int) = 0
    · rw [if_pos h1, no fun H => by have := H.1; omega]
    rw [if_neg h1, if_pos (by omega)]
    by_cases h2 : ((bl.getD 0 ⟨#[]⟩).size : Int) > 16
    · rw [if_pos h2, no fun H => by have := H.2.1; omega]
    rw [if_neg h2, if_pos hrl]
    by_cases h3 : RowP row bl.length
    rotate_left
    · rw [if_pos h3, no fun H => h3 H.2.2.1]
    rw [if_neg (not_not_intro h3)]
    have hrs := rowP_short h3
    generalize hz0 : (bl.getD 0 ⟨#[]⟩).size = z at *
    have hlen0 : 0 < bl.length := by omega
    refine fix5 (T := fun k => impl_RowSum_T4 k (impl_RowSum_W11 (bl.length + 30) (bl.length + 30))) (fun i n l row' bl' => (n = bl.length ∧ l = bl ∧ row' = row ∧ bl' = bl) ∧ (0 ≤ i ∧ i ≤ bl.length) ∧ ∀ j, j < i.toNat → (bl.getD j ⟨#[]⟩).size = z) (fun i _ _ _ _ => (bl.length - i).toNat) (fun _ _ _ _ _ => ([T (sumS bl row).1, B (sumS bl row).2], [])) ?_ _ _ _ _ _ _ ⟨⟨rfl, rfl, rfl, rfl⟩, ⟨by omega, by omega⟩, fun j hj => by rw [Int.toNat_zero] at hj; omega⟩ (by omega)
    intro i n l row' bl' K hI hK
    obtain ⟨⟨e1, e2, e3, e4⟩, ⟨q0, q1⟩, q2⟩ := hI
    rw [e1, e2, e3, e4]
    unfold impl_RowSum_T4
    simp only [Bool.cond_eq_ite, decide_eq_true_eq, bne_iff_ne, ne_eq]
    by_cases hi : i < (bl.length : Int)
    · have hlt : i.toNat < bl.length := by omega
      rw [if_pos hi, if_pos q0, if_pos hi, if_pos (by omega), hz0]
      by_cases c : (((bl.getD i.toNat ⟨#[]⟩).size : Int) = z)
      · rw [if_neg (not_not_intro c), w64i q0 (by omega)]
        refine hK _ _ _ _ _ ⟨⟨rfl, rfl, rfl, rfl⟩, ⟨by omega, by omega⟩, fun j hj => ?_⟩ (by omega)
        by_cases e : j = i.toNat
        · rw [e]; omega
        · exact q2 j (by omega)
      · rw [if_pos c, no fun H => by
          have := H.2.2.2 _ (List.getElem_mem hlt)
          rw [← getD_lt hlt ⟨#[]⟩, hz0] at this
          omega]
    · have hall : ∀ b ∈ bl, b.size = z := fun b hb => by
        obtain ⟨j, hj, rfl⟩ := List.mem_iff_getElem.1 hb
        have := q2 j (by omega)
        rw [getD_lt hj] at this
        exact this
      have hS : sumS bl row = (sumB bl row (zerosB z), true) := by
        unfold sumS
        rw [cdec_t ⟨hlen0, by omega, h3, fun b hb => by rw [hz0]; exact hall b hb⟩, hz0]
      rw [if_neg hi, if_pos (by omega), hz0, if_pos ⟨by omega, by omega⟩, Int.toNat_natCast, hS]
      refine fix5 (T := fun k => impl_RowSum_T11 k) (fun i n l out bl' => (n = row.length ∧ l = row ∧ bl' = bl) ∧ (0 ≤ i ∧ i ≤ row.length) ∧ out = sumB bl (row.take i.toNat) (zerosB z) ∧ out.size = z) (fun i _ _ _ _ => (row.length - i).toNat) (fun _ _ _ _ _ => ([T (sumB bl row (zerosB z)), B true], [])) ?_ _ _ _ _ _ _ ⟨⟨rfl, rfl, rfl⟩, ⟨by omega, by omega⟩, rfl, by rw [zerosB_size]⟩ (by omega)
      intro i n l out bl' K hI hK
      obtain ⟨⟨e1, e2, e3⟩, ⟨q0, q1⟩, e4, q3⟩ := hI
      rw [e1, e2, e3]
      unfold impl_RowSum_T11
      simp only [Bool.cond_eq_ite, decide_eq_true_eq]
      by_cases hi : i < (row.length : Int)
      · have hlt : i.toNat < row.length := by omega
        have hx := h3.2.2.2 _ (List.getElem_mem hlt)
        rw [← getD_lt hlt 0] at hx
        have hlt2 : (row.getD i.toNat 0).toNat < bl.length := by omega
        have hsz := hall _ (List.getElem_mem hlt2)
        rw [← getD_lt hlt2 ⟨#[]⟩] at hsz
        rw [if_pos hi, if_pos q0, if_pos hi, if_pos hx.1, if_pos hx.2, if_pos ⟨by omega, by omega⟩, w64i q0 (by omega)]
        refine hK _ _ _ _ _ ⟨⟨rfl, rfl, rfl⟩, ⟨by omega, by omega⟩, ?_, ?_⟩ (by omega)
        · rw [toNat_succ q0, sumB_take _ _ _ _ hlt, e4]
        · rw [xorB_size _ _ (by omega)]; exact q3
      · rw [if_neg hi, e4, List.take_of_length_le (by omega)]
  · cases h
theorem cutL_len (L Z : Int) (t : ByteArray) : (cutL L Z t).length = (cnt L Z).toNat := by simp [cutL]
theorem cutL_size {L Z : Int} {W G : List Int} {t : ByteArray} (h : PlanP L Z W G) (ht : (t.size : Int) = L) : ∀ b ∈ cutL L Z t, b.size = Z.toNat := by
  intro b hb
  unfold cutL at hb
  obtain ⟨i, hi, rfl⟩ := List.mem_map.1 hb
  have hlt := List.mem_range.1 hi
  have hs := allT_size h ht
  have h2 := h.2.1
  have h3 := h.2.2.1
  have hzn : ((cnt L Z).toNat * Z.toNat) = (allT L Z t).size := by
    have := mul_nat (Z := Z) (by omega) (cnt L Z).toNat
    rw [Int.toNat_of_nonneg (by omega)] at this
    omega
  have hb1 : (i + 1) * Z.toNat ≤ (allT L Z t).size := by rw [← hzn]; exact Nat.mul_le_mul_right _ hlt
  have hb2 : (i + 1) * Z.toNat = i * Z.toNat + Z.toNat := Nat.succ_mul _ _
  unfold blockT
  rw [ByteArray.size_extract]
  omega
theorem rowPl_in {L Z : Int} {W G : List Int} {id : Int} (t : ByteArray) (h : PlanP L Z W G) (hid : 0 ≤ id) : ∀ x ∈ rowPl L Z W G id, 0 ≤ x ∧ x < ((cutL L Z t).length : Int) := fun x hx => by
  have := (rowPl_ok h hid).1.2.2.2 x hx
  have h3 := h.2.2.1
  rw [cutL_len, Int.toNat_of_nonneg (by omega)]
  exact this
theorem symB_size {L Z : Int} {W G : List Int} {id : Int} {t : ByteArray} (h : PlanP L Z W G) (ht : (t.size : Int) = L) (hid : 0 ≤ id) : ((symB L Z W G t id).size : Int) = Z := by
  have h2 := h.2.1
  unfold symB
  rw [sumB_size (cutL_size h ht) _ _ (rowPl_in t h hid) (zerosB_size _)]
  omega
theorem sum_eq {L Z : Int} {W G : List Int} {id : Int} {t : ByteArray} (h : PlanP L Z W G) (ht : (t.size : Int) = L) (hid : 0 ≤ id) : sumS (cutL L Z t) (rowPl L Z W G id) = (symB L Z W G t id, true) := by
  have h3 := h.2.2.1
  have h2 := h.2.1
  have hsz := cutL_size h ht
  have hl := cutL_len L Z t
  have h0 : ((cutL L Z t).getD 0 ⟨#[]⟩).size = Z.toNat := by
    rw [getD_lt (by omega)]
    exact hsz _ (List.getElem_mem _)
  unfold sumS symB
  rw [cdec_t ⟨by omega, by omega, by
    rw [hl, Int.toNat_of_nonneg (by omega)]
    exact (rowPl_ok h hid).1, fun b hb => by rw [h0]; exact hsz b hb⟩, h0]
theorem K_spec_PlanSymbol : Sound1 Try.prog EKs F_spec_PlanSymbol.f S_spec_PlanSymbol := snd ok_spec_PlanSymbol [(F_spec_PlanOk.f, S_spec_PlanOk), (F_spec_l1In.f, S_spec_l1In), (F_spec_l2Sum.f, S_spec_l2Sum), (F_spec_l5Cut.f, S_spec_l5Cut), (F_spec_l5Row.f, S_spec_l5Row)]
    (tabF_cons K_spec_PlanOk (tabF_cons K_spec_l1In (tabF_cons K_spec_l2Sum (tabF_cons K_spec_l5Cut (tabF_cons K_spec_l5Row (tabF_nil _ _)))))) fun args sp h hp => by
  unfold S_spec_PlanSymbol at h
  split at h
  · rename_i L Z W G t id
    cases h
    have hp : (sm W.length && sm G.length) = true := hp
    refine ⟨rfl, 0, (spec_PlanSymbol_run _ _ _ _ _ _ _).trans ?_⟩
    unfold spec_PlanSymbol_T symS
    rw [hp]
    cases hb : planB L Z W G with
    | false => rfl
    | true =>
      by_cases ht : (t.size : Int) = L
      rotate_left
      · rw [decide_eq_false ht, bne_iff_ne.2 ht]; rfl
      have hne : ((t.size : Int) != L) = false := by rw [ht]; simp
      rw [hne, decide_eq_true ht]
      cases hd : inB id 0 9999 with
      | false => rfl
      | true =>
        have hid := inB_of.1 hd
        have hP := planB_iff.1 hb
        have h2 := hP.2.1
        have hr := rowPl_ok hP hid.1
        have hrl := rowP_short hr.1
        have hall : (decide (0 ≤ Z ∧ Z < 1000000 ∧ (rowPl L Z W G id).length < 1000000) && ((List.all (cutL L Z t) fun b => decide ((b.size : Int) = Z)) && List.all (rowPl L Z W G id) fun x => decide (0 ≤ x ∧ x < ((cutL L Z t).length : Int)))) = true := by
          simp only [Bool.and_eq_true, decide_eq_true_eq, List.all_eq_true]
          exact ⟨⟨by omega, by omega, by omega⟩, fun b hb => by rw [cutL_size hP ht b hb]; omega, rowPl_in t hP hid.1⟩
        rw [decide_eq_true hid, hall]; rfl
  · cases h
theorem cutS_sm (L Z : Int) (W G : List Int) (t : ByteArray) : sm (cutS L Z W G t).length = true := by
  unfold cutS
  cases hb : planB L Z W G && decide ((t.size : Int) = L) with
  | false => rfl
  | true =>
    simp only [Bool.and_eq_true, decide_eq_true_eq] at hb
    have := plan_z (planB_iff.1 hb.1)
    exact decide_eq_true (by rw [cutL_len]; omega)
theorem rowPS_sm (L Z : Int) (W G : List Int) (id : Int) : sm (rowPS L Z W G id).length = true := by
  unfold rowPS
  cases hb : planB L Z W G && inB id 0 9999 with
  | false => rfl
  | true =>
    simp only [Bool.and_eq_true] at hb
    have := rowP_short (rowPl_ok (planB_iff.1 hb.1) (inB_of.1 hb.2).1).1
    show sm (rowPl L Z W G id).length = true
    exact decide_eq_true (by omega)
theorem sumS_nil (row : List Int) : sumS [] row = (⟨#[]⟩, false) := by
  unfold sumS
  rw [cdec_f fun H => by have := H.1; simp at this]
theorem K_impl_PlanSymbol : Sound1 Try.prog EKs F_impl_PlanSymbol.f S_impl_PlanSymbol := snd ok_impl_PlanSymbol [(F_impl_within.f, S_impl_within), (F_impl_PlanCut.f, S_impl_PlanCut), (F_impl_PlanRow.f, S_impl_PlanRow), (F_impl_RowSum.f, S_impl_RowSum)]
    (tabF_cons K_impl_within (tabF_cons K_impl_PlanCut (tabF_cons K_impl_PlanRow (tabF_cons K_impl_RowSum (tabF_nil _ _))))) fun args sp h hp => by
  unfold S_impl_PlanSymbol S_spec_PlanSymbol at h
  split at h
  · rename_i L Z W G t id
    cases h
    have hp : (sm W.length && sm G.length) = true := hp
    refine ⟨rfl, 0, (impl_PlanSymbol_run _ _ _ _ _ _ _).trans ?_⟩
    unfold impl_PlanSymbol_T symS
    rw [hp, cutS_sm, rowPS_sm]
    cases hd : inB id 0 9999 with
    | false => cases planB L Z W G <;> cases decide ((t.size : Int) = L) <;> rfl
    | true =>
      unfold cutS rowPS
      rw [hd]
      cases hb : planB L Z W G with
      | false => show some ([T (sumS [] []).1, B (sumS [] []).2], []) = _; rw [sumS_nil]; rfl
      | true =>
        by_cases ht : (t.size : Int) = L
        · have e := sum_eq (planB_iff.1 hb) ht (inB_of.1 hd).1
          rw [decide_eq_true ht]
          show some ([T (sumS (cutL L Z t) (rowPl L Z W G id)).1, B (sumS (cutL L Z t) (rowPl L Z W G id)).2], []) = _
          rw [e]; rfl
        · rw [decide_eq_false ht]
          show some ([T (sumS [] (rowPl L Z W G id)).1, B (sumS [] (rowPl L Z W G id)).2], []) = _
          rw [sumS_nil]; rfl
  · cases h
/-! ### Drawn seeds and numbers -/
theorem five {k : Int} (h : 0 ≤ k ∧ k < 16) : IntKind.wrap .i64 (Int.tdiv (IntKind.wrap .i64 (k * 5)) 16) = k * 5 / 16 := by
  rw [w64 (x := k * 5) (by omega) (by omega), Int.tdiv_eq_ediv_of_nonneg (by omega), w64 (by omega) (by omega)]
theorem seedR_ok {b : List Int} {p : Int} (h : rdOk b p = true) (hp : p < 900000) : spec_l15Seed_T b p = some ([I (seedR b p).1], [rdC b (seedR b p).2]) ∧ p < (seedR b p).2 ∧ (seedR b p).2 ≤ p + 10 := by
  have key : ∃ s q, spec_l15Seed_T b p = some ([I s], [rdC b q]) ∧ p < q ∧ q ≤ p + 10 := by
    have p0 := (rdOk_of h).1.2.1
    have r1 : ∀ q, 0 ≤ q → q < 1000000 → rdOk b q = true := fun q h0 h1 => rdOk_mk h h0 h1
    have k := (pick_eq (n := 16) (r1 (p + 1 + 1 + 1) (by omega) (by omega))).2
    have k2 := k.2.1 (by omega)
    unfold spec_l15Seed_T
    rw [five ⟨k.1, k2⟩]
    simp only [Bool.cond_eq_ite, decide_eq_true_eq]
    rw [if_pos h, if_pos (r1 _ (by omega) (by omega)), if_pos (r1 _ (by omega) (by omega)), if_pos (r1 _ (by omega) (by omega)), if_pos (by omega), if_pos (by show _ < (5 : Int); omega)]
    exact ⟨_, _, rfl, by omega, by omega⟩
  obtain ⟨s, q, e, h1, h2⟩ := key
  have : seedR b p = (s, q) := by unfold seedR; rw [e]
  rw [this]
  exact ⟨e, h1, h2⟩
theorem K_spec_l15Seed : Sound1 Try.prog EKs F_spec_l15Seed.f S_spec_l15Seed := snd ok_spec_l15Seed [(F_spec_l1Rd_pick.f, S_spec_l1Rd_pick)] (tabF_cons K_spec_l1Rd_pick (tabF_nil _ _)) fun args sp h hp => by
  unfold S_spec_l15Seed at h
  split at h
  · rename_i b p
    cases h
    simp only [Bool.and_eq_true, decide_eq_true_eq] at hp
    exact ⟨rfl, 0, (spec_l15Seed_run _ _ _).trans (seedR_ok hp.1 hp.2).1⟩
  · cases h
theorem idR_ok {b : List Int} {p : Int} (h : rdOk b p = true) (hp : p < 900000) : spec_l15Id_T b p = some ([I (idR b p).1], [rdC b (idR b p).2]) ∧ p < (idR b p).2 ∧ (idR b p).2 ≤ p + 10 := by
  have key : ∃ s q, spec_l15Id_T b p = some ([I s], [rdC b q]) ∧ p < q ∧ q ≤ p + 10 := by
    have p0 := (rdOk_of h).1.2.1
    have r1 : ∀ q, 0 ≤ q → q < 1000000 → rdOk b q = true := fun q h0 h1 => rdOk_mk h h0 h1
    have k := (pick_eq (n := 16) (r1 (p + 1 + 1) (by omega) (by omega))).2
    have k2 := k.2.1 (by omega)
    unfold spec_l15Id_T
    rw [five ⟨k.1, k2⟩]
    simp only [Bool.cond_eq_ite, decide_eq_true_eq]
    rw [if_pos h, if_pos (r1 _ (by omega) (by omega)), if_pos (r1 _ (by omega) (by omega)), if_pos (by omega), if_pos (by show _ < (5 : Int); omega)]
    exact ⟨_, _, rfl, by omega, by omega⟩
  obtain ⟨s, q, e, h1, h2⟩ := key
  have : idR b p = (s, q) := by unfold idR; rw [e]
  rw [this]
  exact ⟨e, h1, h2⟩
theorem K_spec_l15Id : Sound1 Try.prog EKs F_spec_l15Id.f S_spec_l15Id := snd ok_spec_l15Id [(F_spec_l1Rd_pick.f, S_spec_l1Rd_pick)] (tabF_cons K_spec_l1Rd_pick (tabF_nil _ _)) fun args sp h hp => by
  unfold S_spec_l15Id at h
  split at h
  · rename_i b p
    cases h
    simp only [Bool.and_eq_true, decide_eq_true_eq] at hp
    exact ⟨rfl, 0, (spec_l15Id_run _ _ _).trans (idR_ok hp.1 hp.2).1⟩
  · cases h
theorem K_spec_DrawRowDraw : Sound1 Try.prog EKs F_spec_DrawRowDraw.f S_spec_DrawRowDraw := snd ok_spec_DrawRowDraw [(F_spec_l1Open.f, S_spec_l1Open), (F_spec_l1Rd_pick.f, S_spec_l1Rd_pick), (F_spec_l15Seed.f, S_spec_l15Seed)] (tabF_cons K_spec_l1Open (tabF_cons K_spec_l1Rd_pick (tabF_cons K_spec_l15Seed (tabF_nil _ _)))) fun args sp h hp => by
  unfold S_spec_DrawRowDraw at h
  split at h
  · rename_i b
    cases h
    have h0 := byOk_rd hp
    have h1 : rdOk (b.take 2000) (0 + 1) = true := rdOk_mk h0 (by omega) (by omega)
    refine ⟨rfl, 0, (spec_DrawRowDraw_run _ _).trans ?_⟩
    unfold spec_DrawRowDraw_T
    rw [h0, h1]; rfl
  · cases h
theorem K_spec_DrawPlanRow : Sound1 Try.prog EKs F_spec_DrawPlanRow.f S_spec_DrawPlanRow := snd ok_spec_DrawPlanRow [(F_spec_l1Open.f, S_spec_l1Open), (F_spec_l15AnyPlan.f, S_spec_l15AnyPlan), (F_spec_l15Id.f, S_spec_l15Id)] (tabF_cons K_spec_l1Open (tabF_cons K_spec_l15AnyPlan (tabF_cons K_spec_l15Id (tabF_nil _ _)))) fun args sp h hp => by
  unfold S_spec_DrawPlanRow at h
  split at h
  · rename_i b
    cases h
    have h0 := byOk_rd hp
    obtain ⟨_, h1, h2⟩ := anyPR_ok h0 (by omega)
    refine ⟨rfl, 0, (spec_DrawPlanRow_run _ _).trans ?_⟩
    unfold spec_DrawPlanRow_T
    simp only [Bool.cond_eq_ite, decide_eq_true_eq, Bool.and_eq_true]
    rw [if_pos ⟨h0, by omega⟩, if_pos ⟨rdOk_mk h0 (by omega) (by omega), by omega⟩]
    rfl
  · cases h
theorem K_spec_DrawPlanSymbol : Sound1 Try.prog EKs F_spec_DrawPlanSymbol.f S_spec_DrawPlanSymbol := snd ok_spec_DrawPlanSymbol [(F_spec_l1Open.f, S_spec_l1Open), (F_spec_l15Id.f, S_spec_l15Id), (F_spec_DrawPlanCut.f, S_spec_DrawPlanCut)] (tabF_cons K_spec_l1Open (tabF_cons K_spec_l15Id (tabF_cons K_spec_DrawPlanCut (tabF_nil _ _)))) fun args sp h hp => by
  unfold S_spec_DrawPlanSymbol at h
  split at h
  · rename_i b
    cases h
    have h0 := byOk_rd hp
    have hp : byOk b = true := hp
    refine ⟨rfl, 0, (spec_DrawPlanSymbol_run _ _).trans ?_⟩
    unfold spec_DrawPlanSymbol_T
    rw [h0, hp]; rfl
  · cases h
end Go.Proofs.Ythcahoeoofggjaa.V
