/- What functions come to, and that they do so; conditions: those that each theorem states. -/
import Derived.Test.YtbolcmcjniiieaaDg7G
set_option linter.unusedVariables false
set_option linter.unusedSimpArgs false
namespace Go.Proofs.Ytbolcmcjniiieaa.V
open Go Vx Vx.N
/-! ### Learning, the program's way -/
theorem K_impl_cloneSolver : Sound1 Try.prog EKs F_impl_cloneSolver.f S_impl_cloneSolver := sndD ok_impl_cloneSolver [] (tabF_nil _ _) fun args sp h hp => by
  unfold S_impl_cloneSolver at h
  split at h
  · rename_i c z es
    cases h
    obtain ⟨hl, hs⟩ := smE_of hp
    refine ⟨rfl, es.length + 1, (impl_cloneSolver_run _ _ _ _).trans ?_⟩
    refine fix9 (T := fun k => impl_cloneSolver_T3 k) (fun i n es' c1 z1 _ _ r _ => n = es.length ∧ es' = es ∧ c1 = c ∧ z1 = z ∧ (0 ≤ i ∧ i ≤ es.length) ∧ r = es.take i.toNat) (fun i _ _ _ _ _ _ _ _ => es.length - i.toNat) (fun _ _ _ _ _ _ _ _ _ => ([SoD c z es], [])) ?_ _ _ _ _ _ _ _ _ _ _ ⟨rfl, rfl, rfl, rfl, ⟨by omega, by omega⟩, rfl⟩ (by omega)
    rintro i n es' c1 z1 a3 a4 r r0 K ⟨rfl, rfl, rfl, rfl, ⟨q0, q1⟩, rfl⟩ hK
    unfold impl_cloneSolver_T3
    simp only [Bool.cond_eq_ite, decide_eq_true_eq]
    by_cases hi : i < es'.length
    · have hlt : i.toNat < es'.length := by omega
      have := hs _ hlt
      have ht : (es'.take i.toNat).length ≤ i.toNat := by rw [List.length_take]; omega
      rw [if_pos hi, if_pos q0, if_pos hi, if_pos (by omega), if_pos (by omega), w64i q0 (by omega)]
      refine hK _ _ _ _ _ _ _ _ _ ⟨rfl, rfl, rfl, rfl, ⟨by omega, by omega⟩, ?_⟩ (by omega)
      rw [toNat_succ q0, List.take_succ_eq_append_getElem hlt, getD_lt hlt]; rfl
    · rw [if_neg hi, List.take_of_length_le (by omega)]
  · cases h
theorem addI_eq (c z : Int) (es : List Eqn) (row : List Int) (t : ByteArray) : addI c z es row t = if RowP row c ∧ (t.size : Int) = z then addE z es row t else (es, 3) := by
  unfold addI
  by_cases h : RowP row c ∧ (t.size : Int) = z
  · rw [if_pos h, decide_eq_true h]
  · rw [if_neg h, decide_eq_false h]
/-- The place of an equation: so many pivots are less. -/
def placeE (e : Eqn) (l : List Eqn) : Nat := l.countP fun f => decide (piv f < piv e)
theorem put_ins (e : Eqn) : ∀ (l : List Eqn), (l.map piv).Pairwise (· < ·) → (∀ f ∈ l, piv f ≠ piv e) → insE l (placeE e l) e = putE e l := by
  intro l
  induction l with
  | nil => intro _ _; rfl
  | cons f l ih =>
    intro ha hn
    rw [List.map_cons, List.pairwise_cons] at ha
    have ih' := ih ha.2 fun g hg => hn g (List.mem_cons_of_mem _ hg)
    rw [putE_cons]
    by_cases h : piv f > piv e
    · have h0 : placeE e (f :: l) = 0 := by
        unfold placeE
        rw [List.countP_eq_zero]
        intro g hg
        rcases List.mem_cons.1 hg with rfl | hg
        · simp only [decide_eq_true_eq]; omega
        · have := ha.1 _ (List.mem_map.2 ⟨g, hg, rfl⟩)
          simp only [decide_eq_true_eq]; omega
      rw [if_pos h, h0]; rfl
    · have hlt : piv f < piv e := by have := hn f List.mem_cons_self; omega
      have h1 : placeE e (f :: l) = placeE e l + 1 := by
        unfold placeE
        rw [List.countP_cons, if_pos (decide_eq_true hlt)]
      rw [if_neg h, h1, ← ih']; rfl
theorem place_map {c z : Int} {es : List Eqn} {e : Eqn} (h : AddP c z es e) : placeE e (es.map (clearE e)) = placeE e es := by
  unfold placeE
  rw [List.countP_map]
  refine List.countP_congr fun f hf => ?_
  have hm := (solverL_of h.s).m f hf
  show decide (piv (clearE e f) < piv e) = true ↔ _
  rw [clear_piv h.r h.n hm.1 hm.2.1 (h.p f hf)]
theorem learn_ins {c z : Int} {es : List Eqn} {e : Eqn} (h : AddP c z es e) : insE (es.map (clearE e)) (placeE e es) e = learnE es e := by
  have L := solverL_of h.s
  have hpiv : ∀ f ∈ es, piv (clearE e f) = piv f := fun f hf => clear_piv h.r h.n (L.m f hf).1 (L.m f hf).2.1 (h.p f hf)
  rw [← place_map h]
  refine put_ins e _ ?_ fun f hf => ?_
  · rw [List.map_map]
    have : es.map (piv ∘ clearE e) = es.map piv := List.map_congr_left fun f hf => hpiv f hf
    rw [this]; exact L.a
  · obtain ⟨g, hg, rfl⟩ := List.mem_map.1 hf
    rw [hpiv g hg]
    exact fun e0 => h.p g hg (e0 ▸ mem_of_piv h.n)
theorem place_succ (e : Eqn) {es : List Eqn} {i : Nat} (h : i < es.length) : placeE e (es.take (i + 1)) = placeE e (es.take i) + if piv (es.getD i eqD) < piv e then 1 else 0 := by
  unfold placeE
  rw [List.take_succ_eq_append_getElem h, List.countP_append, getD_lt h]
  by_cases c : piv es[i] < piv e
  · rw [if_pos c, List.countP_cons, List.countP_nil, if_pos (decide_eq_true c)]
  · rw [if_neg c, List.countP_cons, List.countP_nil, decide_eq_false c]; rfl
theorem place_le (e : Eqn) (l : List Eqn) : placeE e l ≤ l.length := List.countP_le_length
theorem add_loop {c z : Int} {es : List Eqn} {e : Eqn} (h : AddP c z es e) (N : Nat) (hN : es.length < N) (a1 a2 : Int) (r0 : List Eqn) :
    impl_Solver_add_W12 N N (0, (es.length : Int), es, 0, e.2, ((maskN e.1 : Nat) : Int), c, z, e.2, a1, a2, [], e.1, r0) = some ([SoD c z (learnE es e), I 0], []) := by
  have hl := solver_len h.s
  have hz := h.s.2.1
  have hc := h.s.1
  have hem := mask_24 h.r
  have hpe := h.r.2.2.2 _ (mem_of_piv h.n)
  refine fixL_ok (T := fun k => impl_Solver_add_T12 k) (fun | (i, n, es', at', rest, m, c', z', b1, _, _, r2, r1, _) => (n = es.length ∧ es' = es ∧ rest = e.2 ∧ m = ((maskN e.1 : Nat) : Int) ∧ c' = c ∧ z' = z ∧ b1 = e.2 ∧ r1 = e.1) ∧ (0 ≤ i ∧ i ≤ es.length) ∧ at' = (placeE e (es.take i.toNat) : Nat) ∧ r2 = (es.take i.toNat).map (clearE e))
    (fun | (i, _, _, _, _, _, _, _, _, _, _, _, _, _) => es.length - i.toNat) (fun _ => ([SoD c z (learnE es e), I 0], [])) ?_ _ _ ⟨⟨rfl, rfl, rfl, rfl, rfl, rfl, rfl, rfl⟩, ⟨by omega, by omega⟩, rfl, rfl⟩ (by simpa using hN)
  rintro ⟨i, n, es', at', rest, m, c', z', b1, a1, a2, r2, r1, r0⟩ K ⟨⟨rfl, rfl, rfl, rfl, rfl, rfl, rfl, rfl⟩, ⟨q0, q1⟩, rfl, rfl⟩ hK
  unfold impl_Solver_add_T12
  simp only [Bool.cond_eq_ite, decide_eq_true_eq, Bool.and_eq_true, List.all_eq_true, beq_iff_eq]
  have htl : ((es'.take i.toNat).map (clearE e)).length ≤ i.toNat := by rw [List.length_map, List.length_take]; omega
  by_cases hi : i < es'.length
  · have hlt : i.toNat < es'.length := by omega
    have hf := getE_mem hlt
    have hm := (solverL_of h.s).m _ hf
    have hpf := h.p _ hf
    have hap := place_le e (es'.take i.toNat)
    rw [List.length_take] at hap
    have hps := place_succ e hlt
    have hts : (es'.take (i.toNat + 1)).map (clearE e) = (es'.take i.toNat).map (clearE e) ++ [clearE e (es'.getD i.toNat eqD)] := by
      rw [List.take_succ_eq_append_getElem hlt, List.map_append, getD_lt hlt]; rfl
    generalize hfe : es'.getD i.toNat eqD = f at *
    have s1 := rowP_short hm.1
    have m1 := mask_24 hm.1
    have hpv : f.1.getD 0 0 = piv f := rfl
    have hpve : e.1.getD 0 0 = piv e := rfl
    have hbit := bit32 (maskN f.1) (by omega) (piv e) hpe.1 (by omega)
    rw [maskN_bit f.1 (fun x hx => (hm.1.2.2.2 x hx).1), Int.toNat_of_nonneg hpe.1] at hbit
    rw [if_pos hi, if_pos q0, if_pos hi, if_pos ⟨by omega, rowP_32 hm.1⟩, if_pos (ne_len h.n), hpve, hpv, if_pos hpe.1]
    have fin : ∀ (g : Eqn), clearE e f = g → (if List.length ((es'.take i.toNat).map (clearE e)) + 1 < 1099511627776 then if (0 : Int) < (f.1.length : Int) then if (0 : Int) < (e.1.length : Int) then if piv f < piv e then
        K (IntKind.wrap .i64 (i + 1), (es'.length : Int), es', IntKind.wrap .i64 (((placeE e (es'.take i.toNat) : Nat) : Int) + 1), e.2, ((maskN e.1 : Nat) : Int), c', z', e.2, a1, a2, (es'.take i.toNat).map (clearE e) ++ [g], e.1, r0)
        else K (IntKind.wrap .i64 (i + 1), (es'.length : Int), es', ((placeE e (es'.take i.toNat) : Nat) : Int), e.2, ((maskN e.1 : Nat) : Int), c', z', e.2, a1, a2, (es'.take i.toNat).map (clearE e) ++ [g], e.1, r0) else none else none else none) = some ([SoD c' z' (learnE es' e), I 0], []) := by
      intro g hg
      subst hg
      rw [if_pos (by omega), if_pos (ne_len hm.2.1), if_pos (ne_len h.n), w64i q0 (by omega), w64i (by omega) (by omega)]
      by_cases hlt2 : piv f < piv e
      · rw [if_pos hlt2]
        rw [if_pos hlt2] at hps
        exact hK _ ⟨⟨rfl, rfl, rfl, rfl, rfl, rfl, rfl, rfl⟩, ⟨by omega, by omega⟩, by rw [toNat_succ q0, hps]; omega, by rw [toNat_succ q0, hts]⟩ (by show _ - (i + 1).toNat < _ - i.toNat; omega)
      · rw [if_neg hlt2]
        rw [if_neg hlt2] at hps
        exact hK _ ⟨⟨rfl, rfl, rfl, rfl, rfl, rfl, rfl, rfl⟩, ⟨by omega, by omega⟩, by rw [toNat_succ q0, hps]; omega, by rw [toNat_succ q0, hts]⟩ (by show _ - (i + 1).toNat < _ - i.toNat; omega)
    by_cases hp : piv e ∈ f.1
    · have hb : IntKind.wrap .u32 ↑(BitVec.toNat (BitVec.ofInt (IntKind.bits .u32) (Int.fdiv ((maskN f.1 : Nat) : Int) (2 ^ min (piv e).toNat (IntKind.bits .u32))) &&& BitVec.ofInt (IntKind.bits .u32) 1)) = 1 := by
        rw [decide_eq_true hp] at hbit
        simpa using hbit
      have hx := xor_rows hm.1 h.r
      have hmx := mask_24 hx
      rw [if_pos hb, xor32 _ _ (by omega) (by omega), ← mask_xorL hm.1 h.r, if_pos ⟨by omega, by omega⟩, if_pos ⟨by have := h.t; have := hm.2.2; omega, by have := hm.2.2; omega⟩, Int.toNat_natCast, rowN_maskN _ hx.2.2.1 (rowP_24 hx)]
      exact fin _ (by rw [clearE_eq, if_pos hp])
    · have hb : ¬ IntKind.wrap .u32 ↑(BitVec.toNat (BitVec.ofInt (IntKind.bits .u32) (Int.fdiv ((maskN f.1 : Nat) : Int) (2 ^ min (piv e).toNat (IntKind.bits .u32))) &&& BitVec.ofInt (IntKind.bits .u32) 1)) = 1 := by
        rw [decide_eq_false hp] at hbit
        simpa using hbit
      rw [if_neg hb, if_pos (by omega)]
      exact fin _ (by rw [clearE_eq, if_neg hp]; rfl)
  · have hi' : i.toNat = es'.length := by omega
    rw [if_neg hi]
    have hle := place_le e (es'.take i.toNat)
    rw [hi', List.take_length] at hle ⊢
    have hins : (insE (es'.map (clearE e)) (placeE e es') (e.1, e.2)).length = es'.length + 1 := by
      show (insE (es'.map (clearE e)) (placeE e es') e).length = _
      rw [learn_ins h]
      unfold learnE
      rw [putE_len, List.length_map]
    rw [if_pos ⟨by omega, by rw [List.length_map]; omega, by rw [List.length_map]; omega⟩, Int.toNat_natCast, if_pos (by rw [hins]; omega)]
    show some ([SoD c' z' (insE (es'.map (clearE e)) (placeE e es') e), I 0], []) = _
    rw [learn_ins h]

theorem K_impl_Solver_add : Sound1 Try.prog EKs F_impl_Solver_add.f S_impl_Solver_add := sndD ok_impl_Solver_add [(F_impl_RowOk.f, S_impl_RowOk), (F_impl_cloneSolver.f, S_impl_cloneSolver), (F_impl_mask.f, S_impl_mask), (F_impl_Solver_reduce.f, S_impl_Solver_reduce), (F_impl_zeros.f, S_impl_zeros), (F_impl_rowOf.f, S_impl_rowOf), (F_impl_xor.f, S_impl_xor), (F_slices_Insert.f, S_slices_Insert)]
    (tabF_cons K_impl_RowOk (tabF_cons K_impl_cloneSolver (tabF_cons K_impl_mask (tabF_cons K_impl_Solver_reduce (tabF_cons K_impl_zeros (tabF_cons K_impl_rowOf (tabF_cons K_impl_xor (tabF_cons K_slices_Insert (tabF_nil _ _))))))))) fun args sp h hp => by
  unfold S_impl_Solver_add at h
  split at h
  · rename_i c z es row t
    cases h
    simp only [Bool.and_eq_true, solvB_iff] at hp
    obtain ⟨hS, hl⟩ := hp
    have hle := solver_len hS
    refine ⟨rfl, es.length + 1, (impl_Solver_add_run _ _ _ _ _ _).trans ?_⟩
    unfold impl_Solver_add_T
    have hsm := solver_sm hS
    rw [hl]
    simp only [ba_toList_eq]
    simp only [Bool.cond_eq_ite, decide_eq_true_eq, Bool.and_eq_true, List.all_eq_true, beq_iff_eq, bne_iff_ne, ne_eq, Bool.not_eq_true', decide_eq_false_iff_not]
    rw [if_pos trivial]
    by_cases hr : RowP row c
    rotate_left
    · rw [if_pos hr, if_pos hsm, addI_eq, if_neg fun H => hr H.1]
    rw [if_neg (not_not_intro hr)]
    by_cases ht : (t.size : Int) = z
    rotate_left
    · rw [if_pos ht, if_pos hsm, addI_eq, if_neg fun H => ht H.2]
    have s1 := rowP_short hr
    have m1 := mask_24 hr
    have hz := hS.2.1
    have hrow : rowN (((maskN row : Nat) : Int).toNat) = row := by rw [Int.toNat_natCast]; exact rowN_maskN row hr.2.2.1 (rowP_24 hr)
    have hok := redE_ok hS hr ht
    have m2 := mask_24 hok.1
    have ha : addI c z es row t = addE z es row t := by rw [addI_eq, if_pos ⟨hr, ht⟩]
    rw [if_neg (not_not_intro ht), if_pos ⟨by omega, rowP_32 hr⟩, hrow, if_pos ⟨solvB_iff.2 hS, ⟨by omega, by omega⟩, hr, ht, by rw [Int.toNat_natCast]; exact m1⟩, ha, addE_eq]
    by_cases hn : (redE es row t).1 = []
    · have h0 : ((maskN (redE es row t).1 : Nat) : Int) = 0 := by rw [(mask_zero hok.1).2 hn]; rfl
      rw [if_pos h0, if_pos (by omega), if_pos hn]
      by_cases hd : (redE es row t).2 = zerosB z.toNat
      · rw [if_pos hd, if_pos hd, if_pos hsm]
      · rw [if_neg hd, if_neg hd, if_pos hsm]
    · have h0 : ¬ ((maskN (redE es row t).1 : Nat) : Int) = 0 := fun H => hn ((mask_zero hok.1).1 (by omega))
      rw [if_neg h0, if_pos ⟨by omega, by omega⟩, if_neg hn, Int.toNat_natCast, rowN_maskN _ hok.1.2.2.1 (rowP_24 hok.1)]
      exact add_loop (addP_of hS hr ht hn) _ (by omega) _ _ _
  · cases h
theorem K_impl_SolverAdd : Sound1 Try.prog EKs F_impl_SolverAdd.f S_impl_SolverAdd := sndD ok_impl_SolverAdd [(F_impl_SolverOk.f, S_impl_SolverOk), (F_impl_Solver_add.f, S_impl_Solver_add)] (tabF_cons K_impl_SolverOk (tabF_cons K_impl_Solver_add (tabF_nil _ _))) fun args sp h hp => by
  unfold S_impl_SolverAdd at h
  split at h
  · rename_i c z es row t
    cases h
    simp only [Bool.and_eq_true] at hp
    refine ⟨rfl, 0, (impl_SolverAdd_run _ _ _ _ _ _).trans ?_⟩
    unfold impl_SolverAdd_T addS
    rw [hp.1, hp.2]
    cases solvB c z es <;> rfl
  · cases h
theorem K_spec_SolverAdd : Sound1 Try.prog EKs F_spec_SolverAdd.f S_spec_SolverAdd := snd ok_spec_SolverAdd [(F_spec_SolverOk.f, S_spec_SolverOk), (F_spec_RowOk.f, S_spec_RowOk), (F_spec_l3Copy.f, S_spec_l3Copy), (F_spec_l3Add.f, S_spec_l3Add)] (tabF_cons K_spec_SolverOk (tabF_cons K_spec_RowOk (tabF_cons K_spec_l3Copy (tabF_cons K_spec_l3Add (tabF_nil _ _))))) fun args sp h hp => by
  unfold S_spec_SolverAdd at h
  split at h
  · rename_i c z es row t
    cases h
    simp only [Bool.and_eq_true] at hp
    refine ⟨rfl, 0, (spec_SolverAdd_run _ _ _ _ _ _).trans ?_⟩
    unfold spec_SolverAdd_T addS
    rw [hp.1, hp.2, addI_eq]
    cases hs : solvB c z es with
    | false => rfl
    | true =>
      simp only [Bool.cond_eq_ite, decide_eq_true_eq, Bool.and_eq_true, beq_iff_eq, bne_iff_ne, ne_eq, Bool.not_eq_true', decide_eq_false_iff_not]
      by_cases hr : RowP row c
      · by_cases ht : (t.size : Int) = z
        · simp [hr, ht]
        · simp [hr, ht]
      · simp [hr]
  · cases h
theorem K_impl_SolverNew : Sound1 Try.prog EKs F_impl_SolverNew.f S_impl_SolverNew := snd ok_impl_SolverNew [(F_impl_within.f, S_impl_within)] (tabF_cons K_impl_within (tabF_nil _ _)) fun args sp h hp => by
  unfold S_impl_SolverNew S_spec_SolverNew at h
  split at h
  · rename_i c z
    cases h
    obtain ⟨h1, h2⟩ := of_decide_eq_true hp
    refine ⟨rfl, 0, (impl_SolverNew_run _ _ _).trans ?_⟩
    unfold impl_SolverNew_T
    rw [inB_of.2 h1, inB_of.2 h2]; rfl
  · cases h
end Go.Proofs.Ytbolcmcjniiieaa.V
namespace Go.Proofs.Ytbolcmcjniiieaa.V
open Go Vx Vx.N
/-! ### What is said behind an equation learned -/
section
variable {c z : Int} {es : List Eqn}
theorem nil_eq (hS : SolverP c z es) {t : ByteArray} (ht : (t.size : Int) = z) : EqP c z ([], t) := ⟨rowP_nil (by have := hS.1; omega) hS.1.2, ht⟩
theorem red_nil (es : List Eqn) (t : ByteArray) : red es ([], t) = ([], t) := red_id fun f _ hf => by cases hf
theorem ad_nil {row : List Int} {t : ByteArray} {n : Nat} (h : t.size = n) : ad (row, zerosB n) ([], t) = (row, t) := Prod.ext (xorL_nil_right _) (zr_xorB _ _ h)
theorem red_split (hS : SolverP c z es) {row : List Int} {t : ByteArray} (hr : RowP row c) (ht : (t.size : Int) = z) : red es (row, t) = ad (red es (row, zerosB z.toNat)) ([], t) := by
  have A := sol_of hS
  have h := A.lin (eq0 hS.2.1 hr) (nil_eq hS ht)
  rw [ad_nil (by omega), red_nil] at h
  exact h
theorem says_span (hS : SolverP c z es) {row : List Int} {t : ByteArray} (hr : RowP row c) (ht : (t.size : Int) = z) : saysE c z es row = (t, true) ↔ Span c z es (row, t) := by
  have A := sol_of hS
  have h0 := eq0 hS.2.1 hr
  have hn := nil_eq hS ht
  have hv : EqP c z (row, t) := ⟨hr, ht⟩
  rw [A.ker hv, red_split hS hr ht]
  constructor
  · intro h
    obtain ⟨_, _, h3⟩ := says_f (by rw [h] : (saysE c z es row).2 = true)
    rw [h] at h3
    rw [h3]
    exact ad_self hn
  · intro h
    have := ad_zero A.hc A.hz (red_ok A.e h0) hn h
    exact says_t hS hr this
theorem addE_cases (z : Int) (es : List Eqn) (row : List Int) (t : ByteArray) :
    ((red es (row, t)).1 = [] ∧ (red es (row, t)).2 = zerosB z.toNat ∧ addE z es row t = (es, 1)) ∨ ((red es (row, t)).1 = [] ∧ (red es (row, t)).2 ≠ zerosB z.toNat ∧ addE z es row t = (es, 2)) ∨ ((red es (row, t)).1 ≠ [] ∧ addE z es row t = (learnE es (red es (row, t)), 0)) := by
  rw [addE_eq]
  by_cases h : (redE es row t).1 = []
  · rw [if_pos h]
    by_cases h2 : (redE es row t).2 = zerosB z.toNat
    · rw [if_pos h2]; exact .inl ⟨h, h2, rfl⟩
    · rw [if_neg h2]; exact .inr (.inl ⟨h, h2, rfl⟩)
  · rw [if_neg h]; exact .inr (.inr ⟨h, rfl⟩)
/-- What is said behind one more equation that is not wrong. -/
theorem add_span (hS : SolverP c z es) {row : List Int} {t : ByteArray} (hr : RowP row c) (ht : (t.size : Int) = z) (hne : (addE z es row t).2 ≠ 2) {u : Eqn} (hu : EqP c z u) :
    Span c z (addE z es row t).1 u ↔ Span c z es u ∨ Span c z es (ad u (row, t)) := by
  have A := sol_of hS
  have hv : EqP c z (row, t) := ⟨hr, ht⟩
  rcases addE_cases z es row t with ⟨h1, h2, e⟩ | ⟨_, _, e⟩ | ⟨h1, e⟩
  · rw [e]
    have hvs : Span c z es (row, t) := (A.ker hv).2 (Prod.ext h1 h2)
    refine ⟨.inl, fun h => h.elim id fun h => ?_⟩
    have := h.sum A.hc A.hz A.mm hvs
    rwa [ad_back hu hv] at this
  · rw [e] at hne; exact absurd rfl hne
  · rw [e]
    have hP : AddP c z es (red es (row, t)) := addP_of hS hr ht h1
    have hd := A.diff hv
    have hre := red_ok A.e hv
    show Span c z (learnE es (red es (row, t))) u ↔ _
    rw [learn_span hP u hu]
    constructor
    · rintro (h | h)
      · exact .inl h
      · have := h.sum A.hc A.hz A.mm hd
        rw [ad_comm hv hre, ← ad_assoc (hu.ad hre) hre hv, ad_back hu hre] at this
        exact .inr this
    · rintro (h | h)
      · exact .inl h
      · have := h.sum A.hc A.hz A.mm hd
        rw [← ad_assoc (hu.ad hv) hv hre, ad_back hu hv] at this
        exact .inr this
theorem add_wrong (hS : SolverP c z es) {row : List Int} {t : ByteArray} (hr : RowP row c) (ht : (t.size : Int) = z) (h : (addE z es row t).2 = 2) : ∃ d, EqP c z ([], d) ∧ d ≠ zerosB z.toNat ∧ Span c z es (ad (row, t) ([], d)) := by
  have A := sol_of hS
  have hv : EqP c z (row, t) := ⟨hr, ht⟩
  rcases addE_cases z es row t with ⟨_, _, e⟩ | ⟨h1, h2, e⟩ | ⟨_, e⟩
  · rw [e] at h; cases h
  · have hre := red_ok A.e hv
    have e1 : red es (row, t) = ([], (red es (row, t)).2) := Prod.ext h1 rfl
    refine ⟨(red es (row, t)).2, by rw [← e1]; exact hre, h2, ?_⟩
    rw [← e1]
    exact A.diff hv
  · rw [e] at h; cases h
theorem span_nil (hS : SolverP c z es) {d : ByteArray} (hd : EqP c z ([], d)) (h : Span c z es ([], d)) : d = zerosB z.toNat := by
  have := ((sol_of hS).ker hd).1 h
  rw [red_nil] at this
  exact congrArg Prod.snd this
end
theorem addS_ok {c z : Int} {es : List Eqn} {row : List Int} {t : ByteArray} (h : (addS c z es row t).2.2.2 ≠ 3) : SolverP c z es ∧ RowP row c ∧ (t.size : Int) = z ∧ addS c z es row t = (c, z, addE z es row t) := by
  unfold addS at h ⊢
  cases hs : solvB c z es with
  | false => rw [hs] at h; exact absurd rfl h
  | true =>
    rw [hs] at h
    simp only at h ⊢
    rw [addI_eq] at h ⊢
    by_cases hc : RowP row c ∧ (t.size : Int) = z
    · rw [if_pos hc]
      exact ⟨solvB_iff.1 hs, hc.1, hc.2, rfl⟩
    · rw [if_neg hc] at h; exact absurd rfl h
theorem addS_is {c z : Int} {es : List Eqn} {row : List Int} {t : ByteArray} (h1 : SolverP c z es) (h2 : RowP row c) (h3 : (t.size : Int) = z) : addS c z es row t = (c, z, addE z es row t) := by
  unfold addS
  rw [solvB_iff.2 h1, addI_eq, if_pos ⟨h2, h3⟩]
theorem addS_sm {c z : Int} {es : List Eqn} {row : List Int} {t : ByteArray} (h : smE es = true) : smE (addS c z es row t).2.2.1 = true := by
  unfold addS
  cases hs : solvB c z es with
  | false => rfl
  | true =>
    have hS := solvB_iff.1 hs
    show smE (addI c z es row t).1 = true
    rw [addI_eq]
    split
    · rename_i hc
      exact solver_sm (add_ok hS hc.1 hc.2)
    · exact h
theorem add_len {c z : Int} {es : List Eqn} (hS : SolverP c z es) (row : List Int) (t : ByteArray) : ((addE z es row t).2 = 0 → (addE z es row t).1.length = es.length + 1) ∧ ((addE z es row t).2 ≠ 0 → (addE z es row t).1 = es) := by
  rcases addE_cases z es row t with ⟨_, _, e⟩ | ⟨_, _, e⟩ | ⟨_, e⟩ <;> rw [e]
  · exact ⟨fun h => absurd h (by simp), fun _ => rfl⟩
  · exact ⟨fun h => absurd h (by simp), fun _ => rfl⟩
  · exact ⟨fun _ => by show (learnE _ _).length = _; unfold learnE; rw [putE_len, List.length_map], fun h => absurd rfl h⟩
end Go.Proofs.Ytbolcmcjniiieaa.V
