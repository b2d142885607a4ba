/- What functions come to, and that they do so; conditions: those that each theorem states. -/
import Derived.Test.YtbolcmcjniiieaaDd6G
set_option linter.unusedVariables false
set_option linter.unusedSimpArgs false
namespace Go.Proofs.Ytbolcmcjniiieaa.V
open Go Vx Vx.N
/-! ### Drawn solvers -/
theorem smE_iff {es : List Eqn} : smE es = true ↔ es.length < 1000000000 ∧ ∀ e ∈ es, e.1.length < 1000000000 := by
  simp only [smE, Bool.and_eq_true, decide_eq_true_eq, List.all_eq_true]
theorem badRowD_len (b : List Int) (p : Int) (n : Nat) : (badRowD b p n).length ≤ n + 1 := by
  have := rowD_len b p n
  unfold badRowD
  split <;> simp <;> omega
theorem spoil_ok {b : List Int} {p c z : Int} {es : List Eqn} (h : rdOk b p = true) (hS : SolverP c z es) (hp : p < 900000) :
    spec_l15SpoilSolver_T b p c z es = some ([So (spoilR b p c z es).1 (spoilR b p c z es).2.1 (spoilR b p c z es).2.2.1], [rdC b (spoilR b p c z es).2.2.2]) ∧ smE (spoilR b p c z es).2.2.1 = true ∧ p < (spoilR b p c z es).2.2.2 ∧ (spoilR b p c z es).2.2.2 ≤ p + 30 := by
  have key : ∃ c' z' es' p', spec_l15SpoilSolver_T b p c z es = some ([So c' z' es'], [rdC b p']) ∧ smE es' = true ∧ p < p' ∧ p' ≤ p + 30 := by
    have hsm := solver_sm hS
    have hl := solver_len hS
    have h0 := (rdOk_of h).1.2.1
    have h1 : rdOk b (p + 1) = true := rdOk_mk h (by omega) (by omega)
    have hm := smE_iff.1 hsm
    have hc := hS.1
    have hpk := (pick_eq (n := 3) h1).2
    have hp3 := hpk.2.1 (by omega)
    unfold spec_l15SpoilSolver_T
    simp only [Bool.cond_eq_ite, decide_eq_true_eq, beq_iff_eq, Bool.and_eq_true]
    rw [if_pos hsm, if_pos h]
    by_cases c0 : pickV b p 6 = 0
    · rw [if_pos c0, if_pos h1, if_pos hpk.1, if_pos (by omega)]
      exact ⟨_, _, _, _, rfl, hsm, by omega, by omega⟩
    rw [if_neg c0]
    by_cases c1 : pickV b p 6 = 1
    · rw [if_pos c1, if_pos h1, if_pos hpk.1, if_pos (by omega)]
      exact ⟨_, _, _, _, rfl, hsm, by omega, by omega⟩
    rw [if_neg c1]
    by_cases c2 : pickV b p 6 = 2
    · rw [if_pos c2]
      by_cases hn : (es.length : Int) > 0
      · rw [if_pos hn, if_pos (by omega), if_pos (by omega)]
        refine ⟨_, _, _, _, rfl, smE_iff.2 ⟨by simp; omega, fun e he => ?_⟩, by omega, by omega⟩
        rcases List.mem_append.1 he with he | he
        · exact hm.2 e he
        · rw [List.mem_singleton.1 he]
          exact hm.2 _ (getE_mem (by omega))
      · rw [if_neg hn]
        exact ⟨_, _, _, _, rfl, hsm, by omega, by omega⟩
    rw [if_neg c2]
    by_cases c3 : pickV b p 6 = 3
    · rw [if_pos c3]
      by_cases hn : (es.length : Int) > 0
      · have hpl := (pick_eq (n := (es.length : Int)) h1).2
        have hpl2 := hpl.2.1 (by omega)
        have h2 : rdOk b (p + 1 + 1) = true := rdOk_mk h (by omega) (by omega)
        have h3 : rdOk b (p + 1 + 1 + c) = true := rdOk_mk h (by omega) (by omega)
        rw [if_pos hn, if_pos h1, if_pos ⟨h2, h3, by omega, by omega⟩, if_pos hpl.1, if_pos hpl2]
        refine ⟨_, _, _, _, rfl, smE_iff.2 ⟨by simp; omega, fun e he => ?_⟩, by omega, by omega⟩
        rcases List.mem_or_eq_of_mem_set he with he | rfl
        · exact hm.2 e he
        · have := badRowD_len b (p + 1 + 1) c.toNat
          show (badRowD b (p + 1 + 1) c.toNat).length < 1000000000
          omega
      · rw [if_neg hn]
        exact ⟨_, _, _, _, rfl, hsm, by omega, by omega⟩
    rw [if_neg c3]
    by_cases c4 : pickV b p 6 = 4
    · rw [if_pos c4]
      by_cases hn : (es.length : Int) > 0
      · have hmem := solver_mem hS (getE_mem (es := es) (i := 0) (by omega))
        have hz := hS.2.1
        have e1 : (ByteArray.size { data := #[120] }) = 1 := rfl
        rw [if_pos hn, if_pos (by omega), if_pos (by rw [e1]; omega), if_pos (by omega)]
        refine ⟨_, _, _, _, rfl, smE_iff.2 ⟨by simp; omega, fun e he => ?_⟩, by omega, by omega⟩
        rcases List.mem_or_eq_of_mem_set he with he | rfl
        · exact hm.2 e he
        · show (es.getD 0 eqD).1.length < 1000000000
          exact hm.2 _ (getE_mem (es := es) (i := 0) (by omega))
      · rw [if_neg hn]
        exact ⟨_, _, _, _, rfl, hsm, by omega, by omega⟩
    rw [if_neg c4, if_pos (by omega)]
    refine ⟨_, _, _, _, rfl, smE_iff.2 ⟨by simp; omega, fun e he => ?_⟩, by omega, by omega⟩
    rcases List.mem_append.1 he with he | he
    · exact hm.2 e he
    · rw [List.mem_singleton.1 he]; simp
  obtain ⟨c', z', es', p', e, h1, h2, h3⟩ := key
  have : spoilR b p c z es = (c', z', es', p') := by unfold spoilR; rw [e]
  rw [this]
  exact ⟨e, h1, h2, h3⟩
theorem K_spec_l15SpoilSolver : Sound1 Try.prog EKs F_spec_l15SpoilSolver.f S_spec_l15SpoilSolver := snd ok_spec_l15SpoilSolver [(F_spec_l3Copy.f, S_spec_l3Copy), (F_spec_l1Rd_pick.f, S_spec_l1Rd_pick), (F_spec_l15BadRow.f, S_spec_l15BadRow)] (tabF_cons K_spec_l3Copy (tabF_cons K_spec_l1Rd_pick (tabF_cons K_spec_l15BadRow (tabF_nil _ _)))) fun args sp h hp => by
  unfold S_spec_l15SpoilSolver at h
  split at h
  · rename_i b p c z es
    cases h
    simp only [Bool.and_eq_true, decide_eq_true_eq] at hp
    exact ⟨rfl, 0, (spec_l15SpoilSolver_run _ _ _ _ _ _).trans (spoil_ok hp.1 (solvB_iff.1 hp.2.1) hp.2.2).1⟩
  · cases h
theorem truthD_ok {b : List Int} {p : Int} (h : rdOk b p = true) (h2 : p < 900000) : trOk (truthD b p) = true ∧ (truthD b p).length ≤ 9 ∧ p < truthP b p ∧ truthP b p ≤ p + 80 := by
  obtain ⟨⟨z0, z1⟩, n0, n1⟩ := truth_in h h2
  have hm : 1 * 1 ≤ truthZ b p * truthN b p := Int.mul_le_mul z0 n0 (by omega) (by omega)
  have hM : truthZ b p * truthN b p ≤ 4 * 9 := Int.mul_le_mul z1 n1 (by omega) (by omega)
  have hl : (truthD b p).length = (truthN b p).toNat := truthL_len _ _ _ _
  have hs : ∀ x ∈ truthD b p, x.size = (truthZ b p).toNat := by
    intro x hx
    unfold truthD truthL at hx
    obtain ⟨k, _, rfl⟩ := List.mem_map.1 hx
    unfold blockD blockL
    rw [strOf_size, List.length_map, List.length_range]
  have hpos : 0 < (truthD b p).length := by omega
  have h0 : ((truthD b p).getD 0 ⟨#[]⟩).size = (truthZ b p).toNat := by
    rw [getD_lt hpos]
    exact hs _ (List.getElem_mem hpos)
  refine ⟨?_, by omega, ?_, ?_⟩
  · simp only [trOk, Bool.and_eq_true, decide_eq_true_eq, List.all_eq_true]
    exact ⟨⟨by omega, by omega, by omega, by omega⟩, fun x hx => (hs x hx).trans h0.symm⟩
  · unfold truthP
    rw [Int.mul_assoc]
    omega
  · unfold truthP
    rw [Int.mul_assoc]
    omega
theorem any_ok {b : List Int} {p : Int} (h : rdOk b p = true) (h2 : p < 800000) : smE (anyR b p).2.2.1 = true ∧ p < (anyR b p).2.2.2 ∧ (anyR b p).2.2.2 ≤ p + 500 ∧ (p < anyP b p ∧ anyP b p ≤ p + 400) ∧ SolverP (truthD b p).length ((truthD b p).getD 0 ⟨#[]⟩).size (solvD b (truthP b p) (truthD b p)) := by
  obtain ⟨t1, t2, t3, t4⟩ := truthD_ok h (by omega)
  have p0 := (rdOk_of h).1.2.1
  have h3 : rdOk b (truthP b p) = true := rdOk_mk h (by omega) (by omega)
  obtain ⟨s1, s2⟩ := solvP_in h3 t1
  have hS := solvD_ok b (truthP b p) t1
  have hp : p < anyP b p ∧ anyP b p ≤ p + 400 := by unfold anyP; omega
  have h4 : rdOk b (anyP b p + 1) = true := rdOk_mk h (by omega) (by omega)
  unfold anyR
  split
  · obtain ⟨_, q1, q2, q3⟩ := spoil_ok h4 hS (by omega)
    exact ⟨q1, by omega, by omega, hp, hS⟩
  · exact ⟨solver_sm hS, by show p < anyP b p + 1; omega, by show anyP b p + 1 ≤ _; omega, hp, hS⟩
theorem K_spec_l15AnySolver : Sound1 Try.prog EKs F_spec_l15AnySolver.f S_spec_l15AnySolver := snd ok_spec_l15AnySolver [(F_spec_l15Truth.f, S_spec_l15Truth), (F_spec_l15Solver.f, S_spec_l15Solver), (F_spec_l1Rd_pick.f, S_spec_l1Rd_pick), (F_spec_l15SpoilSolver.f, S_spec_l15SpoilSolver)] (tabF_cons K_spec_l15Truth (tabF_cons K_spec_l15Solver (tabF_cons K_spec_l1Rd_pick (tabF_cons K_spec_l15SpoilSolver (tabF_nil _ _))))) fun args sp h hp => by
  unfold S_spec_l15AnySolver at h
  split at h
  · rename_i b p
    cases h
    simp only [Bool.and_eq_true, decide_eq_true_eq] at hp
    obtain ⟨h1, h2⟩ := hp
    obtain ⟨t1, t2, t3, t4⟩ := truthD_ok h1 (by omega)
    obtain ⟨_, _, _, a3, hS⟩ := any_ok h1 h2
    have p0 := (rdOk_of h1).1.2.1
    have h3 : rdOk b (truthP b p) = true := rdOk_mk h1 (by omega) (by omega)
    have h5 : rdOk b (anyP b p) = true := rdOk_mk h1 (by omega) (by omega)
    have h4 : rdOk b (anyP b p + 1) = true := rdOk_mk h1 (by omega) (by omega)
    refine ⟨rfl, 0, (spec_l15AnySolver_run _ _ _).trans ?_⟩
    unfold spec_l15AnySolver_T
    rw [show solvP b (truthP b p) (truthD b p) = anyP b p from rfl]
    simp only [Bool.cond_eq_ite, decide_eq_true_eq, Bool.and_eq_true]
    rw [if_pos ⟨h1, by omega⟩, if_pos ⟨h3, t1, by omega⟩, if_pos h5]
    unfold anyR
    cases hc : (pickV b (anyP b p) 12 == 0) with
    | true => rw [if_pos rfl, if_pos ⟨h4, solvB_iff.2 hS, by omega⟩]
    | false => rw [if_neg (by simp)]
  · cases h
end Go.Proofs.Ytbolcmcjniiieaa.V
namespace Go.Proofs.Ytbolcmcjniiieaa.V
open Go Vx Vx.N
/-! ### Equations put together: a space over two -/
structure EqP (c z : Int) (e : Eqn) : Prop where
  r : RowP e.1 c
  t : (e.2.size : Int) = z
def ad (a b : Eqn) : Eqn := (xorL a.1 b.1, xorB a.2 b.2)
def zr (z : Int) : Eqn := ([], zerosB z.toNat)
theorem rowP_nil {c : Int} (h0 : 0 ≤ c) (h1 : c ≤ 24) : RowP [] c := ⟨h0, h1, .nil, fun x hx => by cases hx⟩
theorem zr_ok {c z : Int} (hc : 1 ≤ c ∧ c ≤ 24) (hz : 1 ≤ z ∧ z ≤ 16) : EqP c z (zr z) := ⟨rowP_nil (by omega) hc.2, by show ((zerosB z.toNat).size : Int) = z; rw [zerosB_size]; omega⟩
section
variable {c z : Int}
theorem EqP.ad {a b : Eqn} (ha : EqP c z a) (hb : EqP c z b) : EqP c z (ad a b) := ⟨xor_rows ha.r hb.r, by
  show ((xorB a.2 b.2).size : Int) = z
  rw [xorB_size _ _ (by have := ha.t; have := hb.t; omega)]; exact ha.t⟩
theorem ad_mem {a b : Eqn} (ha : EqP c z a) (hb : EqP c z b) (x : Int) : x ∈ (ad a b).1 ↔ ¬ (x ∈ a.1 ↔ x ∈ b.1) := (xorL_mem a.1 b.1 ha.r.2.2.1 hb.r.2.2.1).1 x
theorem size_eq {a b : Eqn} (ha : EqP c z a) (hb : EqP c z b) : a.2.size = b.2.size := by have := ha.t; have := hb.t; omega
theorem eqn_ext {a b : Eqn} (ha : EqP c z a) (hb : EqP c z b) (h1 : ∀ x, x ∈ a.1 ↔ x ∈ b.1) (h2 : a.2 = b.2) : a = b := Prod.ext (asc_ext ha.r.2.2.1 hb.r.2.2.1 h1) h2
theorem ad_comm {a b : Eqn} (ha : EqP c z a) (hb : EqP c z b) : ad a b = ad b a := by
  refine eqn_ext (ha.ad hb) (hb.ad ha) (fun x => ?_) (xorB_self_comm (size_eq ha hb))
  rw [ad_mem ha hb, ad_mem hb ha]
  by_cases h1 : x ∈ a.1 <;> by_cases h2 : x ∈ b.1 <;> simp [h1, h2]
theorem ad_assoc {a b d : Eqn} (ha : EqP c z a) (hb : EqP c z b) (hd : EqP c z d) : ad (ad a b) d = ad a (ad b d) := by
  refine eqn_ext ((ha.ad hb).ad hd) (ha.ad (hb.ad hd)) (fun x => ?_) (xorB_assoc (size_eq ha hb) (size_eq hb hd))
  rw [ad_mem (ha.ad hb) hd, ad_mem ha hb, ad_mem ha (hb.ad hd), ad_mem hb hd]
  by_cases h1 : x ∈ a.1 <;> by_cases h2 : x ∈ b.1 <;> by_cases h3 : x ∈ d.1 <;> simp [h1, h2, h3]
theorem xorB_zr (t : ByteArray) (n : Nat) (h : t.size = n) : xorB t (zerosB n) = t := by
  have hs := zerosB_size n
  refine ba_ext (xorB_size _ _ (by omega)) fun j hj => ?_
  rw [xorB_size _ _ (by omega)] at hj
  rw [bA_xorB _ _ _ hj (by omega), bA_zeros, Nat.xor_zero]
theorem xorB_self (t : ByteArray) : xorB t t = zerosB t.size := by
  refine ba_ext (by rw [xorB_size _ _ (by omega), zerosB_size]) fun j hj => ?_
  rw [xorB_size _ _ (by omega)] at hj
  rw [bA_xorB _ _ _ hj (by omega), bA_zeros, Nat.xor_self]
theorem ad_zr {a : Eqn} (ha : EqP c z a) : ad a (zr z) = a := Prod.ext (xorL_nil_right _) (xorB_zr _ _ (by have := ha.t; omega))
theorem zr_ad {a : Eqn} (hc : 1 ≤ c ∧ c ≤ 24) (hz : 1 ≤ z ∧ z ≤ 16) (ha : EqP c z a) : ad (zr z) a = a := by rw [ad_comm (zr_ok hc hz) ha, ad_zr ha]
theorem ad_self {a : Eqn} (ha : EqP c z a) : ad a a = zr z := by
  refine Prod.ext ?_ ?_
  · cases h : (ad a a).1 with
    | nil => rfl
    | cons x l =>
      have := (ad_mem ha ha x).1 (by rw [h]; exact List.mem_cons_self)
      exact absurd Iff.rfl this
  · show xorB a.2 a.2 = zerosB z.toNat
    rw [xorB_self]
    have := ha.t
    rw [show a.2.size = z.toNat by omega]
theorem ad_back {a b : Eqn} (ha : EqP c z a) (hb : EqP c z b) : ad (ad a b) b = a := by rw [ad_assoc ha hb hb, ad_self hb, ad_zr ha]
theorem ad_swap {a b d : Eqn} (ha : EqP c z a) (hb : EqP c z b) (hd : EqP c z d) : ad (ad a b) d = ad (ad a d) b := by rw [ad_assoc ha hb hd, ad_comm hb hd, ← ad_assoc ha hd hb]
theorem ad_four {a b d e : Eqn} (ha : EqP c z a) (hb : EqP c z b) (hd : EqP c z d) (he : EqP c z e) : ad (ad a b) (ad d e) = ad (ad a d) (ad b e) := by
  rw [← ad_assoc (ha.ad hb) hd he, ad_swap ha hb hd, ad_assoc (ha.ad hd) hb he]
theorem ad_zero {a b : Eqn} (hc : 1 ≤ c ∧ c ≤ 24) (hz : 1 ≤ z ∧ z ≤ 16) (ha : EqP c z a) (hb : EqP c z b) (h : ad a b = zr z) : a = b := by
  have := ad_back ha hb
  rw [h, zr_ad hc hz hb] at this
  exact this.symm
/-! what is left of an equation -/
def red (es : List Eqn) (v : Eqn) : Eqn := redE es v.1 v.2
theorem red_cons (e : Eqn) (es : List Eqn) (v : Eqn) : red (e :: es) v = if piv e ∈ v.1 then red es (ad v e) else red es v := redE_cons e es v.1 v.2
structure EsP (c z : Int) (es : List Eqn) : Prop where
  m : ∀ f ∈ es, EqP c z f ∧ f.1 ≠ []
  s : es.Pairwise Apart
theorem EsP.tail {e : Eqn} {es : List Eqn} (h : EsP c z (e :: es)) : EsP c z es := ⟨fun f hf => h.m f (List.mem_cons_of_mem _ hf), (List.pairwise_cons.1 h.s).2⟩
theorem EsP.head {e : Eqn} {es : List Eqn} (h : EsP c z (e :: es)) : EqP c z e ∧ piv e ∈ e.1 ∧ ∀ f ∈ es, piv e ∉ f.1 ∧ piv f ∉ e.1 := ⟨(h.m e List.mem_cons_self).1, mem_of_piv (h.m e List.mem_cons_self).2, fun f hf => (List.pairwise_cons.1 h.s).1 f hf⟩
theorem esP_of {es : List Eqn} (h : SolverP c z es) : EsP c z es := ⟨fun f hf => ⟨⟨((solverL_of h).m f hf).1, ((solverL_of h).m f hf).2.2⟩, ((solverL_of h).m f hf).2.1⟩, (solverL_of h).s⟩
theorem red_ok {es : List Eqn} : ∀ (_ : EsP c z es) {v : Eqn} (_ : EqP c z v), EqP c z (red es v) := by
  induction es with
  | nil => exact fun _ v hv => hv
  | cons e es ih =>
    intro h v hv
    rw [red_cons]
    split
    · exact ih h.tail (hv.ad h.head.1)
    · exact ih h.tail hv
theorem red_id {es : List Eqn} {v : Eqn} (h : ∀ f ∈ es, piv f ∉ v.1) : red es v = v := by
  induction es with
  | nil => rfl
  | cons e es ih => rw [red_cons, if_neg (h e List.mem_cons_self)]; exact ih fun f hf => h f (List.mem_cons_of_mem _ hf)
theorem red_np {es : List Eqn} : ∀ (_ : EsP c z es) {v : Eqn} (_ : EqP c z v), ∀ f ∈ es, piv f ∉ (red es v).1 := by
  induction es with
  | nil => exact fun _ v _ f hf => by cases hf
  | cons e es ih =>
    intro h v hv f hf
    have keep : ∀ (l : List Eqn) (_ : EsP c z l) (x : Int) (_ : ∀ g ∈ l, x ∉ g.1) (u : Eqn) (_ : EqP c z u), (x ∈ (red l u).1 ↔ x ∈ u.1) := by
      intro l
      induction l with
      | nil => exact fun _ x _ u _ => Iff.rfl
      | cons g l ihl =>
        intro hl x hx u hu
        rw [red_cons]
        split
        · rw [ihl hl.tail x (fun g' hg' => hx g' (List.mem_cons_of_mem _ hg')) _ (hu.ad hl.head.1), ad_mem hu hl.head.1]
          have := hx g List.mem_cons_self
          simp [this]
        · exact ihl hl.tail x (fun g' hg' => hx g' (List.mem_cons_of_mem _ hg')) _ hu
    obtain ⟨h1, h2, h3⟩ := h.head
    rw [red_cons]
    rcases List.mem_cons.1 hf with rfl | hf
    · split
      · rename_i hp
        rw [keep es h.tail _ (fun g hg => (h3 g hg).1) _ (hv.ad h1), ad_mem hv h1]
        exact not_not_intro ⟨fun _ => h2, fun _ => hp⟩
      · rename_i hp
        rw [keep es h.tail _ (fun g hg => (h3 g hg).1) _ hv]
        exact hp
    · split
      · exact ih h.tail (hv.ad h1) f hf
      · exact ih h.tail hv f hf
theorem red_ad_mem {es : List Eqn} : ∀ (_ : EsP c z es) {e : Eqn} (_ : e ∈ es) {v : Eqn} (_ : EqP c z v), red es (ad v e) = red es v := by
  induction es with
  | nil => exact fun _ e he => by cases he
  | cons f es ih =>
    intro h e he v hv
    obtain ⟨h1, h2, h3⟩ := h.head
    rw [red_cons, red_cons]
    rcases List.mem_cons.1 he with rfl | he
    · have hi := ad_mem hv h1 (piv e)
      by_cases hp : piv e ∈ v.1
      · rw [if_neg fun H => hi.1 H ⟨fun _ => h2, fun _ => hp⟩, if_pos hp]
      · rw [if_pos (hi.2 fun H => hp (H.2 h2)), if_neg hp, ad_back hv h1]
    · have hee := (h.m e (List.mem_cons_of_mem _ he)).1
      have hne := (h3 e he).1
      have hi := ad_mem hv hee (piv f)
      by_cases hp : piv f ∈ v.1
      · rw [if_pos (hi.2 fun H => hne (H.1 hp)), if_pos hp, ad_swap hv hee h1]
        exact ih h.tail he (hv.ad h1)
      · rw [if_neg fun H => hi.1 H ⟨fun h => absurd h hp, fun h => absurd h hne⟩, if_neg hp]
        exact ih h.tail he hv
/-- What equations say together. -/
inductive Span (c z : Int) (es : List Eqn) : Eqn → Prop where
  | zero : Span c z es (zr z)
  | add {v e : Eqn} (h : Span c z es v) (he : e ∈ es) : Span c z es (ad v e)
variable {es : List Eqn}
theorem Span.ok (hc : 1 ≤ c ∧ c ≤ 24) (hz : 1 ≤ z ∧ z ≤ 16) (hm : ∀ f ∈ es, EqP c z f) {v : Eqn} (h : Span c z es v) : EqP c z v := by
  induction h with
  | zero => exact zr_ok hc hz
  | add _ he ih => exact ih.ad (hm _ he)
theorem Span.sum (hc : 1 ≤ c ∧ c ≤ 24) (hz : 1 ≤ z ∧ z ≤ 16) (hm : ∀ f ∈ es, EqP c z f) {u v : Eqn} (hu : Span c z es u) (hv : Span c z es v) : Span c z es (ad u v) := by
  induction hv with
  | zero => rw [ad_zr (hu.ok hc hz hm)]; exact hu
  | add h he ih => rw [← ad_assoc (hu.ok hc hz hm) (h.ok hc hz hm) (hm _ he)]; exact .add ih he
theorem Span.mem (hc : 1 ≤ c ∧ c ≤ 24) (hz : 1 ≤ z ∧ z ≤ 16) (hm : ∀ f ∈ es, EqP c z f) {e : Eqn} (he : e ∈ es) : Span c z es e := by
  have := Span.add (.zero (c := c) (z := z) (es := es)) he
  rwa [zr_ad hc hz (hm e he)] at this
theorem Span.sub (hc : 1 ≤ c ∧ c ≤ 24) (hz : 1 ≤ z ∧ z ≤ 16) {es' : List Eqn} (hm : ∀ f ∈ es, EqP c z f) (hm' : ∀ f ∈ es', EqP c z f) (hsub : ∀ f ∈ es, Span c z es' f) {v : Eqn} (h : Span c z es v) : Span c z es' v := by
  induction h with
  | zero => exact .zero
  | add _ he ih => exact ih.sum hc hz hm' (hsub _ he)
/-- Solvers: their parts. -/
structure Sol (c z : Int) (es : List Eqn) : Prop where
  hc : 1 ≤ c ∧ c ≤ 24
  hz : 1 ≤ z ∧ z ≤ 16
  e : EsP c z es
theorem sol_of (h : SolverP c z es) : Sol c z es := ⟨h.1, h.2.1, esP_of h⟩
theorem Sol.mm (h : Sol c z es) : ∀ f ∈ es, EqP c z f := fun f hf => (h.e.m f hf).1
theorem Sol.z0 (h : Sol c z es) : EqP c z (zr z) := zr_ok h.hc h.hz
theorem Sol.red_span (h : Sol c z es) {s v : Eqn} (hv : EqP c z v) (hs : Span c z es s) : red es (ad v s) = red es v := by
  induction hs with
  | zero => rw [ad_zr hv]
  | add h1 he ih => rw [← ad_assoc hv (h1.ok h.hc h.hz h.mm) (h.mm _ he), red_ad_mem h.e he (hv.ad (h1.ok h.hc h.hz h.mm)), ih]
theorem Sol.diff (h : Sol c z es) : ∀ {v : Eqn} (_ : EqP c z v), Span c z es (ad v (red es v)) := by
  have key : ∀ (l : List Eqn), (∀ f ∈ l, f ∈ es) → EsP c z l → ∀ v, EqP c z v → Span c z es (ad v (red l v)) := by
    intro l
    induction l with
    | nil => intro _ _ v hv; show Span c z es (ad v v); rw [ad_self hv]; exact .zero
    | cons f l ih =>
      intro hsub hl v hv
      have hf := hl.head.1
      rw [red_cons]
      split
      · have := ih (fun g hg => hsub g (List.mem_cons_of_mem _ hg)) hl.tail (ad v f) (hv.ad hf)
        have h2 := this.sum h.hc h.hz h.mm (.mem h.hc h.hz h.mm (hsub f List.mem_cons_self))
        have hr := red_ok hl.tail (hv.ad hf)
        rwa [ad_swap (hv.ad hf) hr hf, ad_back hv hf] at h2
      · exact ih (fun g hg => hsub g (List.mem_cons_of_mem _ hg)) hl.tail v hv
  exact fun {v} hv => key es (fun _ h => h) h.e v hv
theorem Sol.red_zr (h : Sol c z es) : red es (zr z) = zr z := red_id fun f _ hf => by cases hf
theorem Sol.red_uni (h : Sol c z es) {u w : Eqn} (hu : EqP c z u) (hw : EqP c z w) (hn : ∀ f ∈ es, piv f ∉ w.1) (hs : Span c z es (ad u w)) : red es u = w := by
  have := h.red_span hw hs
  rw [ad_comm hu hw, ← ad_assoc hw hw hu, ad_self hw, zr_ad h.hc h.hz hu, red_id hn] at this
  exact this
theorem Sol.ker (h : Sol c z es) {v : Eqn} (hv : EqP c z v) : Span c z es v ↔ red es v = zr z := by
  constructor
  · intro hs
    have := h.red_span h.z0 hs
    rwa [zr_ad h.hc h.hz hv, h.red_zr] at this
  · intro hr
    have := h.diff hv
    rwa [hr, ad_zr hv] at this
theorem Sol.lin (h : Sol c z es) {a b : Eqn} (ha : EqP c z a) (hb : EqP c z b) : red es (ad a b) = ad (red es a) (red es b) := by
  have ra := red_ok h.e ha
  have rb := red_ok h.e hb
  refine h.red_uni (ha.ad hb) (ra.ad rb) (fun f hf hm => ?_) ?_
  · have h1 := red_np h.e ha f hf
    have h2 := red_np h.e hb f hf
    exact (ad_mem ra rb _).1 hm ⟨fun h => absurd h h1, fun h => absurd h h2⟩
  · rw [ad_four ha hb ra rb]
    exact (h.diff ha).sum h.hc h.hz h.mm (h.diff hb)
/-- The least number of a row that is implied is a pivot. -/
theorem red_least {es : List Eqn} : ∀ (_ : EsP c z es) (x : Int) (_ : ∀ f ∈ es, piv f ≠ x) (v : Eqn) (_ : EqP c z v), x ∈ v.1 → (∀ y ∈ v.1, x ≤ y) → x ∈ (red es v).1 := by
  induction es with
  | nil => exact fun _ x _ v _ hx _ => hx
  | cons e es ih =>
    intro h x hn v hv hx hle
    obtain ⟨h1, h2, h3⟩ := h.head
    have hn' : ∀ f ∈ es, piv f ≠ x := fun f hf => hn f (List.mem_cons_of_mem _ hf)
    rw [red_cons]
    split
    · rename_i hp
      have hlt : x < piv e := by
        have := hle _ hp
        have := hn e List.mem_cons_self
        omega
      have hlow : ∀ y ∈ e.1, piv e ≤ y := piv_le h1.r (h.m e List.mem_cons_self).2
      refine ih h.tail x hn' _ (hv.ad h1) ((ad_mem hv h1 x).2 fun H => ?_) fun y hy => ?_
      · have := hlow x (H.1 hx); omega
      · have := (ad_mem hv h1 y).1 hy
        by_cases c1 : y ∈ v.1
        · exact hle y c1
        · by_cases c2 : y ∈ e.1
          · have := hlow y c2; omega
          · exact absurd ⟨fun h => absurd h c1, fun h => absurd h c2⟩ this
    · exact ih h.tail x hn' v hv hx hle
theorem Sol.pivot (h : Sol c z es) {v : Eqn} (hv : EqP c z v) (hs : Span c z es v) (hn : v.1 ≠ []) : ∃ f ∈ es, piv f = piv v := by
  by_cases hex : ∃ f ∈ es, piv f = piv v
  · exact hex
  · exfalso
    have := red_least h.e (piv v) (fun f hf e => hex ⟨f, hf, e⟩) v hv (mem_of_piv hn) (piv_le hv.r hn)
    rw [(h.ker hv).1 hs] at this
    cases this
/-- Two solvers that say the same are the same. -/
theorem solver_uni {es es' : List Eqn} (h : SolverP c z es) (h' : SolverP c z es') (hs : ∀ v, EqP c z v → (Span c z es v ↔ Span c z es' v)) : es = es' := by
  have A := sol_of h
  have A' := sol_of h'
  have hpm : es.map piv = es'.map piv := by
    refine asc_ext (asc_piv h) (asc_piv h') fun p => ?_
    simp only [List.mem_map]
    constructor
    · rintro ⟨f, hf, rfl⟩
      have hm := A.e.m f hf
      exact A'.pivot hm.1 ((hs f hm.1).1 (.mem A.hc A.hz A.mm hf)) hm.2
    · rintro ⟨f, hf, rfl⟩
      have hm := A'.e.m f hf
      exact A.pivot hm.1 ((hs f hm.1).2 (.mem A'.hc A'.hz A'.mm hf)) hm.2
  have key : ∀ f ∈ es, ∀ f' ∈ es', piv f = piv f' → f = f' := by
    intro f hf f' hf' hp
    have m := (A.e.m f hf).1
    have m' := (A'.e.m f' hf').1
    have hspan : Span c z es (ad f f') := (Span.mem A.hc A.hz A.mm hf).sum A.hc A.hz A.mm ((hs f' m').2 (.mem A'.hc A'.hz A'.mm hf'))
    have own : ∀ {l : List Eqn}, SolverP c z l → ∀ g ∈ l, ∀ k ∈ l, (piv g ∈ k.1 ↔ piv g = piv k) := by
      intro l hl g hg k hk
      have L := solverL_of hl
      constructor
      · intro hgk
        by_cases e : g = k
        · rw [e]
        · exfalso
          have hs2 := L.s
          obtain ⟨i, hi, rfl⟩ := List.mem_iff_getElem.1 hg
          obtain ⟨j, hj, rfl⟩ := List.mem_iff_getElem.1 hk
          rcases Nat.lt_trichotomy i j with hij | hij | hij
          · exact (List.pairwise_iff_getElem.1 hs2 i j hi hj hij).1 hgk
          · subst hij; exact e rfl
          · exact (List.pairwise_iff_getElem.1 hs2 j i hj hi hij).2 hgk
      · intro e
        rw [e]
        exact mem_of_piv (L.m k hk).2.1
    have hnp : ∀ g ∈ es, piv g ∉ (ad f f').1 := by
      intro g hg hm
      refine (ad_mem m m' (piv g)).1 hm ?_
      have : piv g ∈ es'.map piv := by rw [← hpm]; exact List.mem_map.2 ⟨g, hg, rfl⟩
      obtain ⟨g', hg', e⟩ := List.mem_map.1 this
      rw [own h g hg f hf, ← e, own h' g' hg' f' hf', e, hp]
    have := red_id hnp
    rw [(A.ker (m.ad m')).1 hspan] at this
    exact ad_zero A.hc A.hz m m' this.symm
  have hlen : es.length = es'.length := by
    have := congrArg List.length hpm
    simpa using this
  refine List.ext_getElem hlen fun i h1 h2 => key _ (List.getElem_mem h1) _ (List.getElem_mem h2) ?_
  have := congrArg (fun l : List Int => l[i]?) hpm
  simp only [List.getElem?_map, List.getElem?_eq_getElem h1, List.getElem?_eq_getElem h2, Option.map_some, Option.some.injEq] at this
  exact this
/-- What is said with an equation learned. -/
theorem learn_span {e : Eqn} (h : AddP c z es e) (v : Eqn) (hv : EqP c z v) : Span c z (learnE es e) v ↔ Span c z es v ∨ Span c z es (ad v e) := by
  have A := sol_of h.s
  have A2 := sol_of (learn_ok h)
  have he : EqP c z e := ⟨h.r, h.t⟩
  have hin : ∀ f, f ∈ learnE es e ↔ f = e ∨ ∃ g ∈ es, clearE e g = f := by
    intro f
    unfold learnE
    rw [putE_mem, List.mem_map]
  have hcl : ∀ g, clearE e g = g ∨ clearE e g = ad g e := by
    intro g
    rw [clearE_eq]
    split
    · exact .inr rfl
    · exact .inl rfl
  constructor
  · intro hs
    clear hv
    induction hs with
    | zero => exact .inl .zero
    | add h1 hf ih =>
      rename_i v f
      have hv := h1.ok A2.hc A2.hz A2.mm
      have step : ∀ g, Span c z es g → EqP c z g → (Span c z es (ad v g) ∨ Span c z es (ad (ad v g) e)) ∧ (Span c z es (ad v (ad g e)) ∨ Span c z es (ad (ad v (ad g e)) e)) := by
        intro g hg hge
        rcases ih with ih | ih
        · refine ⟨.inl (ih.sum A.hc A.hz A.mm hg), .inr ?_⟩
          rw [ad_assoc hv (hge.ad he) he, ad_back hge he]
          exact ih.sum A.hc A.hz A.mm hg
        · have := ih.sum A.hc A.hz A.mm hg
          rw [ad_swap hv he hge] at this
          refine ⟨.inr this, .inl ?_⟩
          rw [← ad_assoc hv hge he]
          exact this
      rcases (hin f).1 hf with rfl | ⟨g, hg, rfl⟩
      · have := (step (zr z) .zero A.z0).2
        rwa [zr_ad A.hc A.hz he] at this
      · rcases hcl g with e1 | e1 <;> rw [e1]
        · exact (step g (.mem A.hc A.hz A.mm hg) (A.mm g hg)).1
        · exact (step g (.mem A.hc A.hz A.mm hg) (A.mm g hg)).2
  · have h1 : Span c z (learnE es e) e := .mem A2.hc A2.hz A2.mm ((hin e).2 (.inl rfl))
    have hsub : ∀ g ∈ es, Span c z (learnE es e) g := by
      intro g hg
      have hm : Span c z (learnE es e) (clearE e g) := .mem A2.hc A2.hz A2.mm ((hin _).2 (.inr ⟨g, hg, rfl⟩))
      rcases hcl g with e1 | e1
      · rwa [e1] at hm
      · rw [e1] at hm
        have := hm.sum A2.hc A2.hz A2.mm h1
        rwa [ad_back (A.mm g hg) he] at this
    rintro (hs | hs)
    · exact hs.sub A.hc A.hz A.mm A2.mm hsub
    · have := (hs.sub A.hc A.hz A.mm A2.mm hsub).sum A2.hc A2.hz A2.mm h1
      rwa [ad_back hv he] at this
end
end Go.Proofs.Ytbolcmcjniiieaa.V
