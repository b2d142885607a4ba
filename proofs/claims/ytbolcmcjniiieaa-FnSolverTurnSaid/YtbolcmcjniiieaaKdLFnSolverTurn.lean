/- What functions come to, and that they do so; conditions: those that each theorem states. -/
import Derived.Test.YtbolcmcjniiieaaKdM3G
set_option linter.unusedVariables false
set_option linter.unusedSimpArgs false
namespace Go.Proofs.Ytbolcmcjniiieaa.V
open Go Vx Vx.N
/-! ### The law -/
noncomputable def S_laws_FnSolverTurn : List DA → Option Sp
  | [.c (.row (.ints .u8 a)), .c (.row (.ints .u8 b))] => some ⟨byOk a && byOk b, [B true], [], .fresh⟩
  | _ => none
/-- The order of two equations does not matter. -/
theorem turn_eq {c z : Int} {es : List Eqn} {row row2 : List Int} {t t2 : ByteArray} (hS : SolverP c z es) (hr : RowP row c) (ht : (t.size : Int) = z) (hr2 : RowP row2 c) (ht2 : (t2.size : Int) = z)
    (h1 : (addE z es row t).2 ≠ 2) (h2 : (addE z (addE z es row t).1 row2 t2).2 ≠ 2) (h3 : (addE z es row2 t2).2 ≠ 2) :
    (addE z (addE z es row2 t2).1 row t).2 ≠ 2 ∧ (addE z (addE z es row t).1 row2 t2).1 = (addE z (addE z es row2 t2).1 row t).1 := by
  have A := sol_of hS
  have hv : EqP c z (row, t) := ⟨hr, ht⟩
  have hw : EqP c z (row2, t2) := ⟨hr2, ht2⟩
  have hSa := add_ok hS hr ht
  have hSc := add_ok hS hr2 ht2
  have hSb := add_ok hSa hr2 ht2
  have sb : ∀ u, EqP c z u → (Span c z (addE z (addE z es row t).1 row2 t2).1 u ↔ (Span c z es u ∨ Span c z es (ad u (row, t))) ∨ (Span c z es (ad u (row2, t2)) ∨ Span c z es (ad (ad u (row2, t2)) (row, t)))) := fun u hu => by
    rw [add_span hSa hr2 ht2 h2 hu, add_span hS hr ht h1 hu, add_span hS hr ht h1 (hu.ad hw)]
  have hl : (addE z (addE z es row2 t2).1 row t).2 ≠ 2 := by
    intro h
    obtain ⟨d, hd, hdn, hsp⟩ := add_wrong hSc hr ht h
    refine hdn (span_nil hSb hd ((sb _ hd).2 ?_))
    have := (add_span hS hr2 ht2 h3 (hv.ad hd)).1 hsp
    rw [ad_comm hv hd] at this
    rcases this with h | h
    · exact .inl (.inr h)
    · rw [ad_swap hd hv hw] at h
      exact .inr (.inr h)
  refine ⟨hl, solver_uni hSb (add_ok hSc hr ht) fun u hu => ?_⟩
  rw [sb u hu, add_span hSc hr ht hl hu, add_span hS hr2 ht2 h3 hu, add_span hS hr2 ht2 h3 (hu.ad hv), ad_swap hu hw hv]
  constructor
  · rintro ((h | h) | (h | h))
    · exact .inl (.inl h)
    · exact .inr (.inl h)
    · exact .inl (.inr h)
    · exact .inr (.inr h)
  · rintro ((h | h) | (h | h))
    · exact .inl (.inl h)
    · exact .inr (.inl h)
    · exact .inl (.inr h)
    · exact .inr (.inr h)
theorem K_laws_FnSolverTurn : Sound1 Try.prog EKs F_laws_FnSolverTurn.f S_laws_FnSolverTurn := snd ok_laws_FnSolverTurn [(F_spec_DrawSolverAdd.f, S_spec_DrawSolverAdd), (F_impl_SolverAdd.f, S_impl_SolverAdd), (F_spec_SolverAdd.f, S_spec_SolverAdd), (F_laws_whSolver.f, S_laws_whSolver)]
    (tabF_cons K_spec_DrawSolverAdd (tabF_cons K_impl_SolverAdd (tabF_cons K_spec_SolverAdd (tabF_cons K_laws_whSolver (tabF_nil _ _))))) fun args sp h hp => by
  unfold S_laws_FnSolverTurn at h
  split at h
  · rename_i code more
    cases h
    simp only [Bool.and_eq_true] at hp
    obtain ⟨p1, p2⟩ := hp
    obtain ⟨_, q1, q2⟩ := drawAdd_ok p1
    refine ⟨rfl, 30, (laws_FnSolverTurn_run _ _ _).trans ?_⟩
    unfold laws_FnSolverTurn_T
    by_cases l1 : (code.length : Int) > 1048576
    · rw [decide_eq_true l1]; rfl
    by_cases l2 : (more.length : Int) > 1048576
    · rw [decide_eq_false l1, decide_eq_true l2]; rfl
    rw [decide_eq_false l1, decide_eq_false l2, p1, q1, q2]
    have q3 := addS_sm (c := (drawAdd code).1) (z := (drawAdd code).2.1) (row := (drawAdd code).2.2.2.1) (t := (drawAdd code).2.2.2.2) q1
    rw [q3]
    generalize (drawAdd code).1 = c at *
    generalize (drawAdd code).2.1 = z at *
    generalize (drawAdd code).2.2.1 = es at *
    generalize (drawAdd code).2.2.2.1 = row at *
    generalize (drawAdd code).2.2.2.2 = t at *
    simp only [ba_toList_eq, cond_false, cond_true, Bool.and_self, decide_true, Bool.not_true, beq_self_eq_true, bne_self_eq_false, Bool.true_and]
    by_cases hk3 : (addS c z es row t).2.2.2 = 3
    · rw [hk3]; rfl
    by_cases hk2 : (addS c z es row t).2.2.2 = 2
    · rw [hk2]; rfl
    rw [beq_eq_false_iff_ne.2 hk3, beq_eq_false_iff_ne.2 hk2]
    obtain ⟨hS, hr, ht, e⟩ := addS_ok hk3
    rw [e] at hk2 q3 ⊢
    simp only at hk2 q3 ⊢
    have hSa := add_ok hS hr ht
    generalize ha : (addE z es row t).1 = ea at *
    have hc := hS.1
    have hz := hS.2.1
    -- the second loop, at any row
    have loop2 : ∀ (i : Int) (some_ : ByteArray) (r0 : List Int), RowP r0 c → (0 ≤ i ∧ i ≤ z) → (some_.size : Int) = i → laws_FnSolverTurn_W16 30 30 (i, some_, t, row, c, z, ea, c, z, es, r0) = some ([B true], []) := by
      intro i some_ r0 hr0 hi hso
      refine fix11 (T := fun k => laws_FnSolverTurn_T16 k) (fun i s t' row' c1 z1 ea' c2 z2 es' r0' => (t' = t ∧ row' = row ∧ c1 = c ∧ z1 = z ∧ ea' = ea ∧ c2 = c ∧ z2 = z ∧ es' = es ∧ r0' = r0) ∧ (0 ≤ i ∧ i ≤ z) ∧ (s.size : Int) = i) (fun i _ _ _ _ _ _ _ _ _ _ => (z - i).toNat) (fun _ _ _ _ _ _ _ _ _ _ _ => ([B true], [])) ?_ _ _ _ _ _ _ _ _ _ _ _ _ ⟨⟨rfl, rfl, rfl, rfl, rfl, rfl, rfl, rfl, rfl⟩, hi, hso⟩ (by omega)
      intro i s t' row' c1 z1 ea' c2 z2 es' r0' K hI hK
      obtain ⟨⟨e1, e2, e3, e4, e5, e6, e7, e8, e9⟩, ⟨q0, q1'⟩, hsz⟩ := hI
      rw [e1, e2, e3, e4, e5, e6, e7, e8, e9]
      unfold laws_FnSolverTurn_T16
      dsimp only
      by_cases hlt : i < z
      · have e1 : (ByteArray.size { data := #[109] }) = 1 := rfl
        have e2 : decide (s.size + ByteArray.size { data := #[109] } < 1099511627776) = true := decide_eq_true (by rw [e1]; omega)
        rw [decide_eq_true hlt, e2, w64i q0 (by omega)]
        refine hK _ _ _ _ _ _ _ _ _ _ _ ⟨⟨rfl, rfl, rfl, rfl, rfl, rfl, rfl, rfl, rfl⟩, ⟨by omega, by omega⟩, ?_⟩ (by omega)
        rw [ByteArray.size_append, e1]; omega
      · have hs1 : (s.size : Int) = z := by omega
        have hsm0 : sm r0.length = true := by have := rowP_short hr0; exact decide_eq_true (by omega)
        rw [decide_eq_false hlt, q3, q1, hsm0, addS_is hSa hr0 hs1, addS_is hS hr0 hs1]
        simp only [cond_true, cond_false, Bool.and_self]
        by_cases h2 : (addE z ea r0 s).2 = 2
        · rw [h2]; rfl
        by_cases h3 : (addE z es r0 s).2 = 2
        · rw [beq_eq_false_iff_ne.2 h2, h3]; rfl
        have hSc := add_ok hS hr0 hs1
        rw [beq_eq_false_iff_ne.2 h2, beq_eq_false_iff_ne.2 h3, solver_sm hSc, q2, addS_is hSc hr ht, solver_sm (add_ok hSa hr0 hs1)]
        rw [← ha] at h2 ⊢
        obtain ⟨h4, h5⟩ := turn_eq hS hr ht hr0 hs1 hk2 h2 h3
        rw [h5]
        simp [bne_iff_ne.2 h4]
    show laws_FnSolverTurn_W10 30 30 (0, t, row, more, c, z, ea, c, z, es, []) = _
    refine fix11 (T := fun k => laws_FnSolverTurn_T10 k (laws_FnSolverTurn_W16 30 30)) (fun i t' row' m' c1 z1 ea' c2 z2 es' r0 => (t' = t ∧ row' = row ∧ m' = more ∧ c1 = c ∧ z1 = z ∧ ea' = ea ∧ c2 = c ∧ z2 = z ∧ es' = es) ∧ (0 ≤ i ∧ i ≤ c) ∧ RowP r0 i) (fun i _ _ _ _ _ _ _ _ _ _ => (c - i).toNat) (fun _ _ _ _ _ _ _ _ _ _ _ => ([B true], [])) ?_ _ _ _ _ _ _ _ _ _ _ _ _ ⟨⟨rfl, rfl, rfl, rfl, rfl, rfl, rfl, rfl, rfl⟩, ⟨by omega, by omega⟩, rowP_nil (by omega) (by omega)⟩ (by omega)
    intro i t' row' m' c1 z1 ea' c2 z2 es' r0 K hI hK
    obtain ⟨⟨e1, e2, e3, e4, e5, e6, e7, e8, e9⟩, ⟨q0, q1'⟩, hr0⟩ := hI
    rw [e1, e2, e3, e4, e5, e6, e7, e8, e9]
    unfold laws_FnSolverTurn_T10
    dsimp only
    by_cases hlt : i < c
    · have hr1 : RowP r0 (i + 1) := rowP_le hr0 (by omega) (by omega)
      have hr2 : RowP (r0 ++ [i]) (i + 1) := by
        refine ⟨by omega, by omega, ?_, fun x hx => ?_⟩
        · rw [List.pairwise_append]
          exact ⟨hr0.2.2.1, List.pairwise_singleton _ _, fun a ha b hb => by rw [List.mem_singleton.1 hb]; exact (hr0.2.2.2 a ha).2⟩
        · rcases List.mem_append.1 hx with hx | hx
          · exact hr1.2.2.2 x hx
          · rw [List.mem_singleton.1 hx]; omega
      have hsl := rowP_short hr0
      have n1 := hK (i + 1) _ _ _ _ _ _ _ _ _ _ ⟨⟨rfl, rfl, rfl, rfl, rfl, rfl, rfl, rfl, rfl⟩, ⟨by omega, by omega⟩, hr1⟩ (by omega)
      have n2 := hK (i + 1) _ _ _ _ _ _ _ _ _ _ ⟨⟨rfl, rfl, rfl, rfl, rfl, rfl, rfl, rfl, rfl⟩, ⟨by omega, by omega⟩, hr2⟩ (by omega)
      rw [decide_eq_true hlt, decide_eq_true q0, w64i q0 (by omega), n1, n2]
      have hd : decide (r0.length + 1 < 1099511627776) = true := decide_eq_true (by omega)
      rw [hd]
      cases decide (i < (more.length : Int)) with
      | true => simp only [cond_true]; cases (Int.tmod (more.getD i.toNat 0) 2 == 1) <;> rfl
      | false => rfl
    · rw [decide_eq_false hlt]
      have : i = c := by omega
      subst this
      exact loop2 0 _ _ hr0 ⟨by omega, by omega⟩ rfl
  · cases h
end Go.Proofs.Ytbolcmcjniiieaa.V
