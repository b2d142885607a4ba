/- What functions come to, and that they do so; conditions: those that each theorem states. -/
import Derived.Test.YthcahoeoofggjaaKeSrt
set_option linter.unusedVariables false
set_option linter.unusedSimpArgs false
namespace Go.Proofs.Ythcahoeoofggjaa.V
open Go Vx Vx.N
/-! ### Drawn rows, walked -/
theorem into_split : ∀ (l : List Int) (n : Int) (k : Nat), k ≤ l.length → (∀ j, j < k → l.getD j 0 < n) → (k < l.length → ¬ l.getD k 0 < n) → into l n = l.take k ++ [n] ++ l.drop k
  | [], n, k, hk, _, _ => by
    have : k = 0 := by simpa using hk
    subst this; rfl
  | x :: l, n, 0, _, _, h2 => by
    unfold into
    rw [if_neg (show ¬ x < n from h2 (by simp))]; rfl
  | x :: l, n, k + 1, hk, h1, h2 => by
    unfold into
    rw [if_pos (show x < n from h1 0 (by omega)), into_split l n k (by simpa using hk) (fun j hj => h1 (j + 1) (by omega)) (fun hl => h2 (by simpa using hl))]
    rfl
theorem K_spec_l4Into : Sound1 Try.prog EKs F_spec_l4Into.f S_spec_l4Into := snd ok_spec_l4Into [] (tabF_nil _ _) fun args sp h hp => by
  unfold S_spec_l4Into at h
  split at h
  · rename_i l n
    cases h
    have hl : l.length < 1000000 := of_decide_eq_true hp
    refine ⟨rfl, l.length + 1, (spec_l4Into_run _ _ _).trans ?_⟩
    refine fix3 (T := fun k => spec_l4Into_T2 k) (fun k n' l' => (n' = n ∧ l' = l) ∧ (0 ≤ k ∧ k ≤ l.length) ∧ ∀ j, j < k.toNat → l.getD j 0 < n) (fun k _ _ => (l.length - k).toNat) (fun _ _ _ => ([Is (into l n)], [])) ?_ _ _ _ _ ⟨⟨rfl, rfl⟩, ⟨by omega, by omega⟩, fun j hj => by rw [Int.toNat_zero] at hj; omega⟩ (by omega)
    intro k n' l' K hI hK
    obtain ⟨⟨e1, e2⟩, ⟨q0, q1⟩, q2⟩ := hI
    rw [e1, e2]
    unfold spec_l4Into_T2
    simp only [Bool.cond_eq_ite, decide_eq_true_eq, List.nil_append, List.drop_zero, Int.toNat_natCast, List.take_length]
    have fin : (k.toNat < l.length → ¬ l.getD k.toNat 0 < n) → (if 0 ≤ k then if k ≤ (l.length : Int) then if 0 + (l.take k.toNat).length < 1099511627776 then if (l.take k.toNat).length + 1 < 1099511627776 then if 0 ≤ k then if k ≤ (l.length : Int) then if (l.length : Int) ≤ l.length then if (l.take k.toNat ++ [n]).length + (l.drop k.toNat).length < 1099511627776 then some ([Is (l.take k.toNat ++ [n] ++ l.drop k.toNat)], []) else none else none else none else none else none else none else none else none) = (some ([Is (into l n)], []) : Rs) := fun h2 => by
      have a1 : (l.take k.toNat).length = k.toNat := by rw [List.length_take]; omega
      have a2 : (l.take k.toNat ++ [n]).length = k.toNat + 1 := by rw [List.length_append, a1]; rfl
      have a3 : (l.drop k.toNat).length = l.length - k.toNat := List.length_drop
      rw [if_pos q0, if_pos q1, if_pos (by omega), if_pos (by omega), if_pos q0, if_pos q1, if_pos (Int.le_refl _), if_pos (by omega), into_split l n k.toNat (by omega) q2 h2]
    by_cases hk : k < (l.length : Int)
    · rw [if_pos hk, if_pos q0, if_pos hk]
      by_cases c : l.getD k.toNat 0 < n
      · rw [if_pos c, w64i q0 (by omega)]
        refine hK _ _ _ ⟨⟨rfl, rfl⟩, ⟨by omega, by omega⟩, fun j hj => ?_⟩ (by omega)
        by_cases e : j = k.toNat
        · rw [e]; exact c
        · exact q2 j (by omega)
      · rw [if_neg c]
        exact fin fun _ => c
    · rw [if_neg hk]
      exact fin fun h => by omega
  · cases h
theorem less_eq (l : List Int) (k : Int) (hk : 0 ≤ k) : [] ++ List.drop 0 (l.take k.toNat) ++ List.drop (k + 1).toNat (l.take ((l.length : Int)).toNat) = lessAt l k.toNat := by
  rw [List.nil_append, List.drop_zero, Int.toNat_natCast, List.take_length, toNat_succ hk]; rfl
theorem K_spec_l4Row : Sound1 Try.prog EKs F_spec_l4Row.f S_spec_l4Row := snd ok_spec_l4Row [(F_spec_l4Next.f, S_spec_l4Next), (F_spec_l4Pick.f, S_spec_l4Pick), (F_spec_l4Degree.f, S_spec_l4Degree), (F_spec_l4Into.f, S_spec_l4Into)] (tabF_cons K_spec_l4Next (tabF_cons K_spec_l4Pick (tabF_cons K_spec_l4Degree (tabF_cons K_spec_l4Into (tabF_nil _ _))))) fun args sp h hp => by
  unfold S_spec_l4Row at h
  split at h
  · rename_i c s
    cases h
    obtain ⟨hc, hs⟩ := of_decide_eq_true hp
    have hp1 := pck_in (s := nxt (nxt s)) (n := 65536) (by omega)
    have hd := deg_in hc hp1
    have hn1 := nxt_in (s := s)
    have hn2 := nxt_in (s := nxt s)
    refine ⟨rfl, 30, (spec_l4Row_run _ _ _).trans ?_⟩
    unfold spec_l4Row_T
    simp only [Bool.cond_eq_ite, decide_eq_true_eq]
    rw [if_pos hs, if_pos hn1, if_pos ⟨hn2, by omega, by omega⟩, if_pos ⟨hc, hp1⟩]
    have hrd : rowGo (nxt (nxt s)) (upTo c.toNat) [] (degAt (degs c) (pck (nxt (nxt s)) 65536) 1).toNat = rowDr c s := rfl
    generalize degAt (degs c) (pck (nxt (nxt s)) 65536) 1 = D at *
    show spec_l4Row_W5 30 30 (0, D, nxt (nxt s), c, []) = _
    -- the drawing
    have loop2 : spec_l4Row_W10 30 30 (0, D, nxt (nxt s), [], upTo c.toNat) = some ([Is (rowDr c s)], []) := by
      refine fix5 (T := fun k => spec_l4Row_T10 k) (fun i d t out l => d = D ∧ (0 ≤ i ∧ i ≤ D) ∧ (0 ≤ t ∧ t < 2147483648) ∧ ((l.length : Int) = c - i ∧ (out.length : Int) = i) ∧ rowGo t l out (D - i).toNat = rowDr c s) (fun i _ _ _ _ => (D - i).toNat) (fun _ _ _ _ _ => ([Is (rowDr c s)], [])) ?_ _ _ _ _ _ _ ⟨rfl, ⟨by omega, by omega⟩, hn2, ⟨by rw [upTo_len]; omega, rfl⟩, by rw [Int.sub_zero]; exact hrd⟩ (by omega)
      intro i d t out l K hI hK
      obtain ⟨e1, ⟨q0, q1⟩, q2, ⟨q3, q4⟩, q5⟩ := hI
      rw [e1]
      unfold spec_l4Row_T10
      dsimp only
      have hnt := nxt_in (s := t)
      by_cases hi : i < D
      · have hk := pck_in (s := nxt t) (n := (l.length : Int)) (by omega)
        have hkl : (pck (nxt t) l.length).toNat < l.length := by omega
        have a1 : (List.drop 0 (l.take (pck (nxt t) l.length).toNat)).length ≤ 24 := by rw [List.drop_zero, List.length_take]; omega
        have a2 : ([] ++ List.drop 0 (l.take (pck (nxt t) l.length).toNat)).length + (List.drop (pck (nxt t) l.length + 1).toNat (l.take ((l.length : Int)).toNat)).length < 1099511627776 := by
          simp only [List.nil_append, List.length_drop, List.length_take]; omega
        rw [decide_eq_true hi, decide_eq_true q2, decide_eq_true (⟨hnt, by omega, by omega⟩ : (0 ≤ nxt t ∧ nxt t < 2147483648) ∧ 1 ≤ (l.length : Int) ∧ (l.length : Int) ≤ 65536), decide_eq_true hk.1, decide_eq_true hk.2, decide_eq_true (show out.length < 1000000 by omega), decide_eq_true (show pck (nxt t) l.length ≤ (l.length : Int) by omega), decide_eq_true (show 0 + (List.drop 0 (l.take (pck (nxt t) l.length).toNat)).length < 1099511627776 by omega),
          w64i hk.1 (by omega), decide_eq_true (show 0 ≤ pck (nxt t) l.length + 1 by omega), decide_eq_true (show pck (nxt t) l.length + 1 ≤ (l.length : Int) by omega), decide_eq_true (Int.le_refl _), decide_eq_true a2, w64i q0 (by omega), less_eq l _ hk.1]
        have hll := less_len hkl
        refine hK _ _ _ _ _ ⟨rfl, ⟨by omega, by omega⟩, hnt, ⟨by omega, by rw [into_len]; omega⟩, ?_⟩ (by omega)
        rw [show (D - i).toNat = (D - (i + 1)).toNat + 1 by omega] at q5
        exact q5
      · rw [decide_eq_false hi]
        rw [show (D - i).toNat = 0 by omega] at q5
        rw [← q5]; rfl
    refine fix5 (T := fun k => spec_l4Row_T5 k (spec_l4Row_W10 30 30)) (fun i d t c' l => (d = D ∧ t = nxt (nxt s) ∧ c' = c) ∧ (0 ≤ i ∧ i ≤ c) ∧ l = upTo i.toNat) (fun i _ _ _ _ => (c - i).toNat) (fun _ _ _ _ _ => ([Is (rowDr c s)], [])) ?_ _ _ _ _ _ _ ⟨⟨rfl, rfl, rfl⟩, ⟨by omega, by omega⟩, rfl⟩ (by omega)
    intro i d t c' l K hI hK
    obtain ⟨⟨e1, e2, e3⟩, ⟨q0, q1⟩, e4⟩ := hI
    rw [e1, e2, e3, e4]
    unfold spec_l4Row_T5
    dsimp only
    by_cases hi : i < c
    · rw [decide_eq_true hi, decide_eq_true (show (upTo i.toNat).length + 1 < 1099511627776 by rw [upTo_len]; omega), w64i q0 (by omega)]
      refine hK _ _ _ _ _ ⟨⟨rfl, rfl, rfl⟩, ⟨by omega, by omega⟩, ?_⟩ (by omega)
      rw [toNat_succ q0, upTo_succ, Int.toNat_of_nonneg q0]
    · rw [decide_eq_false hi, show i = c by omega]
      exact loop2
  · cases h
theorem K_spec_RowDraw : Sound1 Try.prog EKs F_spec_RowDraw.f S_spec_RowDraw := snd ok_spec_RowDraw [(F_spec_l1In.f, S_spec_l1In), (F_spec_l4Row.f, S_spec_l4Row)] (tabF_cons K_spec_l1In (tabF_cons K_spec_l4Row (tabF_nil _ _))) fun args sp h hp => by
  unfold S_spec_RowDraw at h
  split at h
  · rename_i c s
    cases h
    refine ⟨rfl, 0, (spec_RowDraw_run _ _ _).trans ?_⟩
    unfold spec_RowDraw_T rowS
    cases hb : inB c 1 24 with
    | false => rfl
    | true =>
      cases hd : inB s 0 2147483647 with
      | false => rfl
      | true =>
        have h1 := inB_of.1 hb
        have h2 := inB_of.1 hd
        rw [decide_eq_true (⟨h1, h2.1, by omega⟩ : (1 ≤ c ∧ c ≤ 24) ∧ 0 ≤ s ∧ s < 2147483648)]; rfl
  · cases h
theorem nextS_eq {s : Int} (h : 0 ≤ s ∧ s < 2147483648) : nextS s = nxt s := by
  unfold nextS
  rw [inBt ⟨h.1, by omega⟩]
theorem pickS_eq {s n : Int} (h : 0 ≤ s ∧ s < 2147483648) (hn : 1 ≤ n ∧ n ≤ 65536) : pickS s n = pck s n := by
  unfold pickS
  rw [inBt ⟨h.1, by omega⟩, inBt hn]; rfl
theorem degS_eq {c p : Int} (hc : 1 ≤ c ∧ c ≤ 24) (hp : 0 ≤ p ∧ p < 65536) : degS c p = degAt (degs c) p 1 := by
  unfold degS degsS
  rw [inBt ⟨hp.1, by omega⟩, inBt hc]
theorem K_impl_RowDraw : Sound1 Try.prog EKs F_impl_RowDraw.f S_impl_RowDraw := snd ok_impl_RowDraw [(F_impl_within.f, S_impl_within), (F_impl_SeedNext.f, S_impl_SeedNext), (F_impl_SeedPick.f, S_impl_SeedPick), (F_impl_DegreeOf.f, S_impl_DegreeOf), (F_slices_Delete.f, S_slices_Delete), (F_slices_Sort.f, S_slices_Sort)]
    (tabF_cons K_impl_within (tabF_cons K_impl_SeedNext (tabF_cons K_impl_SeedPick (tabF_cons K_impl_DegreeOf (tabF_cons K_slices_Delete (tabF_cons K_slices_Sort (tabF_nil _ _))))))) fun args sp h hp => by
  unfold S_impl_RowDraw S_spec_RowDraw at h
  split at h
  · rename_i c s
    cases h
    refine ⟨rfl, 30, (impl_RowDraw_run _ _ _).trans ?_⟩
    unfold impl_RowDraw_T rowS
    cases hb : inB c 1 24 with
    | false => rfl
    | true =>
      cases hdd : inB s 0 2147483647 with
      | false => rfl
      | true =>
        have hc := inB_of.1 hb
        have hs0 := inB_of.1 hdd
        have hs : 0 ≤ s ∧ s < 2147483648 := ⟨hs0.1, by omega⟩
        have hp1 := pck_in (s := nxt (nxt s)) (n := 65536) (by omega)
        have hd := deg_in hc hp1
        have hn1 := nxt_in (s := s)
        have hn2 := nxt_in (s := nxt s)
        have hrd : rowGo (nxt (nxt s)) (upTo c.toNat) [] (degAt (degs c) (pck (nxt (nxt s)) 65536) 1).toNat = rowDr c s := rfl
        have hDe := degS_eq hc hp1
        rw [nextS_eq hs, nextS_eq hn1]
        show impl_RowDraw_W7 30 30 (0, c, nxt (nxt s), c, [], []) = some ([Is (rowDr c s)], [])
        have loop2 : impl_RowDraw_W12 30 30 (0, degAt (degs c) (pck (nxt (nxt s)) 65536) 1, nxt (nxt s), upTo c.toNat, []) = some ([Is (rowDr c s)], []) := by
          generalize degAt (degs c) (pck (nxt (nxt s)) 65536) 1 = D at *
          refine fix5 (T := fun k => impl_RowDraw_T12 k) (fun i d t l out => d = D ∧ (0 ≤ i ∧ i ≤ D) ∧ (0 ≤ t ∧ t < 2147483648) ∧ (l.length : Int) = c - i ∧ ∃ ins, RowI c l ins ∧ out.Perm ins ∧ (ins.length : Int) = i ∧ rowGo t l ins (D - i).toNat = rowDr c s) (fun i _ _ _ _ => (D - i).toNat) (fun _ _ _ _ _ => ([Is (rowDr c s)], [])) ?_ _ _ _ _ _ _ ⟨rfl, ⟨by omega, by omega⟩, hn2, by rw [upTo_len]; omega, [], ⟨upTo_nodup _, fun x hx => by have := upTo_mem.1 hx; omega, List.Pairwise.nil, fun x hx => (by cases hx), fun x hx => (by cases hx)⟩, List.Perm.refl _, rfl, by rw [Int.sub_zero]; exact hrd⟩ (by omega)
          intro i d t l out K hI hK
          obtain ⟨e1, ⟨q0, q1⟩, q2, q3, ins, q4, q5, q6, q7⟩ := hI
          rw [e1]
          unfold impl_RowDraw_T12
          dsimp only
          have hnt := nxt_in (s := t)
          have hol := q5.length_eq
          by_cases hi : i < D
          · have hk := pck_in (s := nxt t) (n := (l.length : Int)) (by omega)
            have hkl : (pck (nxt t) l.length).toNat < l.length := by omega
            have hll := less_len hkl
            rw [nextS_eq q2, pickS_eq hnt (n := (l.length : Int)) ⟨by omega, by omega⟩, decide_eq_true hi, decide_eq_true hk.1, decide_eq_true hk.2, decide_eq_true (show out.length + 1 < 1099511627776 by omega), w64i hk.1 (by omega),
              decide_eq_true (⟨⟨hk.1, by omega⟩, by omega, by omega, by omega⟩ : (0 ≤ pck (nxt t) l.length ∧ pck (nxt t) l.length ≤ pck (nxt t) l.length + 1) ∧ pck (nxt t) l.length + 1 ≤ (l.length : Int) ∧ 0 < l.length ∧ l.length < 1000000), w64i q0 (by omega), toNat_succ hk.1]
            refine hK _ _ _ _ _ ⟨rfl, ⟨by omega, by omega⟩, hnt, by show ((lessAt l _).length : Int) = _; omega, into ins (l.getD (pck (nxt t) l.length).toNat 0), q4.step hkl, (q5.append_right _).trans (into_perm ins _).symm, by rw [into_len]; omega, ?_⟩ (by omega)
            rw [show (D - i).toNat = (D - (i + 1)).toNat + 1 by omega] at q7
            exact q7
          · have hsort := sortI_eq q5 q4.up
            rw [show (D - i).toNat = 0 by omega] at q7
            have hins : ins = rowDr c s := q7
            have hbeq : Nat.beq (rowDr c s).length out.length = true := by rw [← hins, hol]; exact Nat.beq_refl _
            rw [decide_eq_false hi, decide_eq_true (show out.length < 1000000 by omega), hsort, hins, hbeq]; rfl
        refine fix6 (T := fun k => impl_RowDraw_T7 k (impl_RowDraw_W12 30 30)) (fun i n t c' l o => (n = c ∧ t = nxt (nxt s) ∧ c' = c ∧ o = []) ∧ (0 ≤ i ∧ i ≤ c) ∧ l = upTo i.toNat) (fun i _ _ _ _ _ => (c - i).toNat) (fun _ _ _ _ _ _ => ([Is (rowDr c s)], [])) ?_ _ _ _ _ _ _ _ ⟨⟨rfl, rfl, rfl, rfl⟩, ⟨by omega, by omega⟩, rfl⟩ (by omega)
        intro i n t c' l o K hI hK
        obtain ⟨⟨e1, e2, e3, e5⟩, ⟨q0, q1⟩, e4⟩ := hI
        rw [e1, e2, e3, e4, e5]
        unfold impl_RowDraw_T7
        dsimp only
        by_cases hi : i < c
        · rw [decide_eq_true hi, decide_eq_true (show (upTo i.toNat).length + 1 < 1099511627776 by rw [upTo_len]; omega), w64i q0 (by omega)]
          refine hK _ _ _ _ _ _ ⟨⟨rfl, rfl, rfl, rfl⟩, ⟨by omega, by omega⟩, ?_⟩ (by omega)
          rw [toNat_succ q0, upTo_succ, Int.toNat_of_nonneg q0]
        · rw [decide_eq_false hi, show i = c by omega, pickS_eq hn2 ⟨by omega, by omega⟩, hDe]
          exact loop2
  · cases h
end Go.Proofs.Ythcahoeoofggjaa.V
