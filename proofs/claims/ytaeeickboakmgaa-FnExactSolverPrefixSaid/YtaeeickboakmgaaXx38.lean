/- Printed for this claim by the session's program (the kit's printer, several laws in one place): the functions that the law reaches, each as a plain Lean function, and the proof that the Go code comes to its answers. Conditions: none beside those that each theorem states. -/
import Derived.Test.YtaeeickboakmgaaXx0
import Derived.Test.YtaeeickboakmgaaXx8
import Derived.Test.YtaeeickboakmgaaXx10
import Derived.Test.YtaeeickboakmgaaXx12
import Derived.Test.YtaeeickboakmgaaXx36
import Derived.Test.YtaeeickboakmgaaWStep
namespace Go.Proofs.Ytaeeickboakmgaa.X
open Go.RowKit Go.Proofs.YtaeeickboakmgaaW.PrintWords Go.Proofs.YtaeeickboakmgaaW.PrintLast Go.Proofs.YtaeeickboakmgaaW.PrintStep Go.Proofs.YtaeeickboakmgaaW.PrintMore
attribute [local go_sem] max2_int min2_int max_two min_two max_three min_three max_four min_four   -- for this text's walks alone
set_option linter.unusedVariables false
set_option linter.unusedSimpArgs false

/-! ### laws_FnExactSolverPrefix: function 9 -/
def laws_FnExactSolverPrefix.f (k : Nat) (a0_0 : Int) (a0_1 : Int) (l0_2 : List (S102)) : Option (Bool) := (laws_szSolver.f k a0_0 a0_1 l0_2 1048576).bind fun t772 => (if t772 < 0 then (some true) else ((laws_toSolver.f k a0_0 a0_1 l0_2).bind fun bt773 => ((spec_SolverPrefix.f k bt773.1 bt773.2.1 bt773.2.2).bind fun t778 => ((laws_toSolver.f k a0_0 a0_1 l0_2).bind fun bt779 => ((impl_SolverPrefix.f k bt779.1 bt779.2.1 bt779.2.2).bind fun t785 => (if t785 = t778 then ((laws_toSolver.f k a0_0 a0_1 l0_2).bind fun bt786 => ((laws_eqSolver.f k bt779.1 bt779.2.1 bt779.2.2 bt786.1 bt786.2.1 bt786.2.2).bind fun t791 => (if t791 = true then (some true) else (some false)))) else (some false)))))))
theorem laws_FnExactSolverPrefix.mono : ∀ a0 a1 a2 k, LeO (laws_FnExactSolverPrefix.f k a0 a1 a2) (laws_FnExactSolverPrefix.f (k + 1) a0 a1 a2) := by
 intro a0 a1 a2 k
 unfold laws_FnExactSolverPrefix.f
 repeat' first
  | (with_reducible exact impl_SolverPrefix.mono _ _ _ _)
  | (with_reducible exact laws_eqSolver.mono _ _ _ _ _ _ _)
  | (with_reducible exact laws_szSolver.mono _ _ _ _ _)
  | (with_reducible exact laws_toSolver.mono _ _ _ _)
  | (with_reducible exact spec_SolverPrefix.mono _ _ _ _)
  | (with_reducible exact LeO.refl _)
  | (with_reducible exact LeO.none _)
  | (with_reducible refine LeO.ite ?_ ?_)
  | (with_reducible refine LeO.bind ?_ (fun _ => ?_))
  | exact impl_SolverPrefix.mono _ _ _ _
  | exact laws_eqSolver.mono _ _ _ _ _ _ _
  | exact laws_szSolver.mono _ _ _ _ _
  | exact laws_toSolver.mono _ _ _ _
  | exact spec_SolverPrefix.mono _ _ _ _
  | exact LeO.none _
  | refine LeO.ite ?_ ?_
  | refine LeO.bind ?_ (fun _ => ?_)
set_option maxHeartbeats 8000000 in
set_option maxRecDepth 100000 in
theorem laws_FnExactSolverPrefix.calls (k : Nat) (a0_0 : Int) (a0_1 : Int) (A0_2 : Option Addr) (c0_2 : Nat) (l0_2 : List (S102)) (w : World) (hr0_2 : Kd.C k102 w A0_2 l0_2.length l0_2) (hc0_2 : l0_2.length ≤ c0_2) (h : laws_FnExactSolverPrefix.f k a0_0 a0_1 l0_2 = some true) :
 Calls Try.prog 9 #[.agg #[.int .i64 a0_0, .int .i64 a0_1, .slice A0_2 l0_2.length c0_2]] w fun e w' => e = .returned (.bool true) ∧ Below w.heap.size w w' := by
 have hu32 := Try.underlying32
 have hu37 := Try.underlying37
 have HR0_2 := Aside0.mk hr0_2
 have HC0_2 := Aside0.mk hc0_2
 clear hr0_2 hc0_2
 have HB := Aside0.mk (Below.refl w.heap.size w)
 have H : ((laws_szSolver.f k a0_0 a0_1 l0_2 1048576).bind fun t772 => (if t772 < 0 then (some true) else ((laws_toSolver.f k a0_0 a0_1 l0_2).bind fun bt773 => ((spec_SolverPrefix.f k bt773.1 bt773.2.1 bt773.2.2).bind fun t778 => ((laws_toSolver.f k a0_0 a0_1 l0_2).bind fun bt779 => ((impl_SolverPrefix.f k bt779.1 bt779.2.1 bt779.2.2).bind fun t785 => (if t785 = t778 then ((laws_toSolver.f k a0_0 a0_1 l0_2).bind fun bt786 => ((laws_eqSolver.f k bt779.1 bt779.2.1 bt779.2.2 bt786.1 bt786.2.1 bt786.2.2).bind fun t791 => (if t791 = true then (some true) else (some false)))) else (some false)))))))) = some true := h
 clear h
 replace H := bI_ H
 obtain ⟨t772, A20, H⟩ := H
 replace H : (if t772 < 0 then (some true) else ((laws_toSolver.f k a0_0 a0_1 l0_2).bind fun bt773 => ((spec_SolverPrefix.f k bt773.1 bt773.2.1 bt773.2.2).bind fun t778 => ((laws_toSolver.f k a0_0 a0_1 l0_2).bind fun bt779 => ((impl_SolverPrefix.f k bt779.1 bt779.2.1 bt779.2.2).bind fun t785 => (if t785 = t778 then ((laws_toSolver.f k a0_0 a0_1 l0_2).bind fun bt786 => ((laws_eqSolver.f k bt779.1 bt779.2.1 bt779.2.2 bt786.1 bt786.2.1 bt786.2.2).bind fun t791 => (if t791 = true then (some true) else (some false)))) else (some false))))))) = some true := H
 have A2 := Aside0.mk A20
 clear A20
 by_cases c3 : t772 < 0
 ·rw [if_pos c3] at H
  have c3b0 : decide (t772 < 0) = true := decide_eq_true c3
  clear c3
  clear H
  go_enter Try.func9, Try.ntmps9
  go_wp2_with (first | ((with_reducible refine gate_dst (N := 1) rfl ?_); refine box_event ?hg (N := 1) ?hd (cs := #[.int .i64 a0_0, .int .i64 a0_1, .slice A0_2 l0_2.length c0_2]) (t := 32) ?hr ?_; (case hd => rfl); (case hg => rfl); (case hr => first | (go_simp; done) | (go_simp; rfl)); intro gb771 hg w4 hbox hb; have n0_ := Aside0.mk (below_step (gB HB.out) hb); have n1_ := Aside0.mk (hbox); have n2_ := Aside0.mk ((by rw [hg]; exact (below_size (gB HB.out)) : w.heap.size ≤ gb771)); have n3_ := n2_; clear HB; have HB := n0_; have BK771 := n1_; have GW771 := n2_; have GE771 := n3_; clear n0_ n1_ n2_ n3_; clear hb hbox hg; have hcz5_0 := cz_ BK771.out 0 rfl; have hcz5_1 := cz_ BK771.out 1 rfl; have hcz5_2 := cz_ BK771.out 2 rfl; have hfz5_0 := blk_frozen BK771.out 0; have hfz5_1 := blk_frozen BK771.out 1; have hfz5_2 := blk_frozen BK771.out 2) | ((with_reducible refine gate_callee (f := 22) rfl ?_); refine goesL_ (some 9) rfl rfl Try.func22 (by kernel_rfl) rfl #[.agg #[.int .i64 a0_0, .int .i64 a0_1, .slice A0_2 l0_2.length c0_2], .int .i64 1048576] rfl (by (try simp only [List.map_toArray, List.map_cons, List.map_nil]); first | done | rfl | (simp only [List.length_drop, List.length_take]; rfl)) ?_; (with_reducible refine (laws_szSolver.calls k a0_0 a0_1 _ _ l0_2 1048576 t772 _ ?side1 ?side2 A2.out).mono ?_); (case side1 => exact gC (Kd.C_below HR0_2.out HB.out)); (case side2 => exact HC0_2.out); rintro e w6 ⟨rfl, hb⟩; refine ⟨_, rfl, ?_⟩; have n0_ := Aside0.mk (blk_below (gK BK771.out) hb); have n1_ := Aside0.mk (below_step (gB HB.out) hb); clear BK771; clear HB; have BK771 := n0_; have HB := n1_; clear n0_ n1_; (try clear hb); (try clear hb2); (try clear hk); (try clear hi)))
  go_ret
  exact ⟨by first | rfl | (simp [errW_none, errW_some] <;> rfl) | (simp [*, errW_none, errW_some] <;> rfl), by repeat (first | (with_reducible first | exact HB.out | apply below_alloc | apply pw_below_drewN | apply below_drew1 | refine below_set ?_ GE771.out) | exact HB.out)⟩
 ·rw [if_neg c3] at H
  have c3b0 : decide (t772 < 0) = false := decide_eq_false c3
  clear c3
  replace H := bI_ H
  obtain ⟨⟨t773, t774, t775⟩, A70, H⟩ := H
  replace H : ((spec_SolverPrefix.f k t773 t774 t775).bind fun t778 => ((laws_toSolver.f k a0_0 a0_1 l0_2).bind fun bt779 => ((impl_SolverPrefix.f k bt779.1 bt779.2.1 bt779.2.2).bind fun t785 => (if t785 = t778 then ((laws_toSolver.f k a0_0 a0_1 l0_2).bind fun bt786 => ((laws_eqSolver.f k bt779.1 bt779.2.1 bt779.2.2 bt786.1 bt786.2.1 bt786.2.2).bind fun t791 => (if t791 = true then (some true) else (some false)))) else (some false))))) = some true := H
  have A7 := Aside0.mk A70
  clear A70
  replace H := bI_ H
  obtain ⟨t778, A80, H⟩ := H
  replace H : ((laws_toSolver.f k a0_0 a0_1 l0_2).bind fun bt779 => ((impl_SolverPrefix.f k bt779.1 bt779.2.1 bt779.2.2).bind fun t785 => (if t785 = t778 then ((laws_toSolver.f k a0_0 a0_1 l0_2).bind fun bt786 => ((laws_eqSolver.f k bt779.1 bt779.2.1 bt779.2.2 bt786.1 bt786.2.1 bt786.2.2).bind fun t791 => (if t791 = true then (some true) else (some false)))) else (some false)))) = some true := H
  have A8 := Aside0.mk A80
  clear A80
  replace H := bI_ H
  obtain ⟨⟨t779, t780, t781⟩, A90, H⟩ := H
  replace H : ((impl_SolverPrefix.f k t779 t780 t781).bind fun t785 => (if t785 = t778 then ((laws_toSolver.f k a0_0 a0_1 l0_2).bind fun bt786 => ((laws_eqSolver.f k t779 t780 t781 bt786.1 bt786.2.1 bt786.2.2).bind fun t791 => (if t791 = true then (some true) else (some false)))) else (some false))) = some true := H
  have A9 := Aside0.mk A90
  clear A90
  replace H := bI_ H
  obtain ⟨t785, A100, H⟩ := H
  replace H : (if t785 = t778 then ((laws_toSolver.f k a0_0 a0_1 l0_2).bind fun bt786 => ((laws_eqSolver.f k t779 t780 t781 bt786.1 bt786.2.1 bt786.2.2).bind fun t791 => (if t791 = true then (some true) else (some false)))) else (some false)) = some true := H
  have A10 := Aside0.mk A100
  clear A100
  by_cases c11 : t785 = t778
  ·rw [if_pos c11] at H
   have c11b0 : (t785 == t778) = true := beq_iff_eq.mpr c11
   have c11b1 : (t785 != t778) = false := bne_eq_false_iff_eq.mpr c11
   clear c11
   replace H := bI_ H
   obtain ⟨⟨t786, t787, t788⟩, A120, H⟩ := H
   replace H : ((laws_eqSolver.f k t779 t780 t781 t786 t787 t788).bind fun t791 => (if t791 = true then (some true) else (some false))) = some true := H
   have A12 := Aside0.mk A120
   clear A120
   replace H := bI_ H
   obtain ⟨t791, A130, H⟩ := H
   replace H : (if t791 = true then (some true) else (some false)) = some true := H
   have A13 := Aside0.mk A130
   clear A130
   by_cases c14 : t791 = true
   ·subst c14
    have H1 : (some true) = some true := rfl
    clear H
    have H := H1
    clear H1
    clear H
    go_enter Try.func9, Try.ntmps9
    try go_wp2_with (first | ((with_reducible refine gate_dst (N := 1) rfl ?_); refine box_event ?hg (N := 1) ?hd (cs := #[.int .i64 a0_0, .int .i64 a0_1, .slice A0_2 l0_2.length c0_2]) (t := 32) ?hr ?_; (case hd => rfl); (case hg => rfl); (case hr => first | (go_simp; done) | (go_simp; rfl)); intro gb771 hg w15 hbox hb; have n0_ := Aside0.mk (below_step (by repeat (first | (with_reducible first | exact HB.out | apply below_alloc | apply pw_below_drewN | apply below_drew1) | exact HB.out)) hb); have n1_ := Aside0.mk (hbox); have n2_ := Aside0.mk ((by rw [hg]; exact (below_size (by repeat (first | (with_reducible first | exact HB.out | apply below_alloc | apply pw_below_drewN | apply below_drew1) | exact HB.out))) : w.heap.size ≤ gb771)); have n3_ := Aside0.mk ((by rw [hg]; exact (below_size (by repeat (first | (with_reducible first | exact HB.out | apply below_alloc | apply pw_below_drewN | apply below_drew1) | exact HB.out))) : w.heap.size ≤ gb771)); clear HB; have HB := n0_; have BK771 := n1_; have GW771 := n2_; have GE771 := n3_; clear n0_ n1_ n2_ n3_; clear hb hbox hg; have hcz16_0 : w15.cell? ⟨gb771, 0, none⟩ = some (.int .i64 a0_0) := (blk_cell BK771.out 0).trans rfl; have hcz16_1 : w15.cell? ⟨gb771, 1, none⟩ = some (.int .i64 a0_1) := (blk_cell BK771.out 1).trans rfl; have hcz16_2 : w15.cell? ⟨gb771, 2, none⟩ = some (.slice A0_2 l0_2.length c0_2) := (blk_cell BK771.out 2).trans rfl; have hfz16_0 := blk_frozen BK771.out 0; have hfz16_1 := blk_frozen BK771.out 1; have hfz16_2 := blk_frozen BK771.out 2) | ((with_reducible refine gate_callee (f := 22) rfl ?_); refine goesL_ (some 9) rfl rfl Try.func22 (by kernel_rfl) rfl #[.agg #[.int .i64 a0_0, .int .i64 a0_1, .slice A0_2 l0_2.length c0_2], .int .i64 1048576] rfl (by (try simp only [List.map_toArray, List.map_cons, List.map_nil]); first | done | rfl | (simp only [List.length_drop, List.length_take]; rfl)) ?_; (with_reducible refine (laws_szSolver.calls k a0_0 a0_1 _ _ l0_2 1048576 t772 _ ?side1 ?side2 A2.out).mono ?_); (case side1 => repeat (first | exact (Kd.C_below HR0_2.out HB.out) | (with_reducible refine Kd.C_alloc ?_ _) | (with_reducible refine Kd.C_drewN ?_ _) | (with_reducible refine Kd.C_drew ?_))); (case side2 => exact HC0_2.out); rintro e w17 ⟨rfl, hb⟩; refine ⟨_, rfl, ?_⟩; have n0_ := Aside0.mk (blk_below (g := gb771) (o := .cells #[.int .i64 a0_0, .int .i64 a0_1, .slice A0_2 l0_2.length c0_2] 32 (0, 0)) (by (with_reducible repeat (first | refine blk_drewN ?_ _ | refine blk_drew ?_ | refine blk_alloc ?_ _)); exact BK771.out) hb); have n1_ := Aside0.mk (below_step (by repeat (first | (with_reducible first | exact HB.out | apply below_alloc | apply pw_below_drewN | apply below_drew1 | refine below_set ?_ GE771.out) | exact HB.out)) hb); clear BK771; clear HB; have BK771 := n0_; have HB := n1_; clear n0_ n1_; (try clear hb); (try clear hb2); (try clear hk); (try clear hi); have hcz18_0 : w17.cell? ⟨gb771, 0, none⟩ = some (.int .i64 a0_0) := (blk_cell BK771.out 0).trans rfl; have hcz18_1 : w17.cell? ⟨gb771, 1, none⟩ = some (.int .i64 a0_1) := (blk_cell BK771.out 1).trans rfl; have hcz18_2 : w17.cell? ⟨gb771, 2, none⟩ = some (.slice A0_2 l0_2.length c0_2) := (blk_cell BK771.out 2).trans rfl; have hfz18_0 := blk_frozen BK771.out 0; have hfz18_1 := blk_frozen BK771.out 1; have hfz18_2 := blk_frozen BK771.out 2) | ((with_reducible refine gate_callee (f := 24) rfl ?_); refine goesL_ (some 13) rfl rfl Try.func24 (by kernel_rfl) rfl #[.agg #[.int .i64 a0_0, .int .i64 a0_1, .slice A0_2 l0_2.length c0_2]] rfl (by (try simp only [List.map_toArray, List.map_cons, List.map_nil]); first | done | rfl | (simp only [List.length_drop, List.length_take]; rfl)) ?_; (with_reducible refine (laws_toSolver.calls k a0_0 a0_1 _ _ l0_2 t773 t774 t775 _ ?side1 ?side2 A7.out).mono ?_); (case side1 => repeat (first | exact (Kd.C_below HR0_2.out HB.out) | (with_reducible refine Kd.C_alloc ?_ _) | (with_reducible refine Kd.C_drewN ?_ _) | (with_reducible refine Kd.C_drew ?_))); (case side2 => exact HC0_2.out); rintro e w19 ⟨v776, rfl, ho0, hb⟩; refine ⟨_, rfl, ?_⟩; have n0_ := Aside0.mk (Kd.S_lower ho0 (below_size (by repeat (first | (with_reducible first | exact HB.out | apply below_alloc | apply pw_below_drewN | apply below_drew1 | refine below_set ?_ GE771.out) | exact HB.out)))); have n1_ := Aside0.mk (blk_below (g := gb771) (o := .cells #[.int .i64 a0_0, .int .i64 a0_1, .slice A0_2 l0_2.length c0_2] 32 (0, 0)) (by (with_reducible repeat (first | refine blk_drewN ?_ _ | refine blk_drew ?_ | refine blk_alloc ?_ _)); exact BK771.out) hb); have n2_ := Aside0.mk (below_step (by repeat (first | (with_reducible first | exact HB.out | apply below_alloc | apply pw_below_drewN | apply below_drew1 | refine below_set ?_ GE771.out) | exact HB.out)) hb); clear BK771; clear HB; have HO777 := n0_; have BK771 := n1_; have HB := n2_; clear n0_ n1_ n2_; (try clear hb); (try clear hb2); (try clear hk); (try clear hi); (try clear ho0); obtain ⟨Ao20, co20, eo20⟩ := Kd.S_slice HO777.out; subst eo20) | ((with_reducible refine gate_callee (f := 43) rfl ?_); refine goesL_ (some 14) rfl rfl Try.func43 (by kernel_rfl) rfl #[.agg #[.int .i64 t773, .int .i64 t774, .slice Ao20 t775.length co20]] rfl (by (try simp only [List.map_toArray, List.map_cons, List.map_nil]); first | done | rfl | (simp only [List.length_drop, List.length_take]; rfl)) ?_; (with_reducible refine (spec_SolverPrefix.calls k t773 t774 _ _ t775 t778 _ ?side1 ?side2 A8.out).mono ?_); (case side1 => repeat (first | exact (Kd.S_reads' HO777.out).2.2 | (with_reducible refine Kd.C_alloc ?_ _) | (with_reducible refine Kd.C_drewN ?_ _) | (with_reducible refine Kd.C_drew ?_))); (case side2 => exact (Kd.S_reads' HO777.out).2.1); rintro e w21 ⟨rfl, hb⟩; refine ⟨_, rfl, ?_⟩; have n0_ := Aside0.mk (Kd.S_below (by (with_reducible repeat (first | apply Kd.S_alloc | apply Kd.S_drewN | apply Kd.S_drew)); exact HO777.out) hb); have n1_ := Aside0.mk (blk_below (g := gb771) (o := .cells #[.int .i64 a0_0, .int .i64 a0_1, .slice A0_2 l0_2.length c0_2] 32 (0, 0)) (by (with_reducible repeat (first | refine blk_drewN ?_ _ | refine blk_drew ?_ | refine blk_alloc ?_ _)); exact BK771.out) hb); have n2_ := Aside0.mk (below_step (by repeat (first | (with_reducible first | exact HB.out | apply below_alloc | apply pw_below_drewN | apply below_drew1 | refine below_set ?_ GE771.out) | exact HB.out)) hb); clear HO777; clear BK771; clear HB; have HO777 := n0_; have BK771 := n1_; have HB := n2_; clear n0_ n1_ n2_; (try clear hb); (try clear hb2); (try clear hk); (try clear hi); have hcz22_0 : w21.cell? ⟨gb771, 0, none⟩ = some (.int .i64 a0_0) := (blk_cell BK771.out 0).trans rfl; have hcz22_1 : w21.cell? ⟨gb771, 1, none⟩ = some (.int .i64 a0_1) := (blk_cell BK771.out 1).trans rfl; have hcz22_2 : w21.cell? ⟨gb771, 2, none⟩ = some (.slice A0_2 l0_2.length c0_2) := (blk_cell BK771.out 2).trans rfl; have hfz22_0 := blk_frozen BK771.out 0; have hfz22_1 := blk_frozen BK771.out 1; have hfz22_2 := blk_frozen BK771.out 2) | ((with_reducible refine gate_callee (f := 24) rfl ?_); refine goesL_ (some 16) rfl rfl Try.func24 (by kernel_rfl) rfl #[.agg #[.int .i64 a0_0, .int .i64 a0_1, .slice A0_2 l0_2.length c0_2]] rfl (by (try simp only [List.map_toArray, List.map_cons, List.map_nil]); first | done | rfl | (simp only [List.length_drop, List.length_take]; rfl)) ?_; (with_reducible refine (laws_toSolver.calls k a0_0 a0_1 _ _ l0_2 t779 t780 t781 _ ?side1 ?side2 A9.out).mono ?_); (case side1 => repeat (first | exact (Kd.C_below HR0_2.out HB.out) | (with_reducible refine Kd.C_alloc ?_ _) | (with_reducible refine Kd.C_drewN ?_ _) | (with_reducible refine Kd.C_drew ?_))); (case side2 => exact HC0_2.out); rintro e w23 ⟨v782, rfl, ho0, hb⟩; refine ⟨_, rfl, ?_⟩; have n0_ := Aside0.mk (Kd.S_elder' (by (with_reducible repeat (first | apply Kd.S_alloc | apply Kd.S_drewN | apply Kd.S_drew)); exact HO777.out) (Kd.S_base ho0) hb); have n1_ := Aside0.mk (Kd.S_lower (Kd.S_new' ho0 (Kd.S_lt (by (with_reducible repeat (first | apply Kd.S_alloc | apply Kd.S_drewN | apply Kd.S_drew)); exact HO777.out))) (below_size (by repeat (first | (with_reducible first | exact HB.out | apply below_alloc | apply pw_below_drewN | apply below_drew1 | refine below_set ?_ GE771.out) | exact HB.out)))); have n2_ := Aside0.mk (blk_below (g := gb771) (o := .cells #[.int .i64 a0_0, .int .i64 a0_1, .slice A0_2 l0_2.length c0_2] 32 (0, 0)) (by (with_reducible repeat (first | refine blk_drewN ?_ _ | refine blk_drew ?_ | refine blk_alloc ?_ _)); exact BK771.out) hb); have n3_ := Aside0.mk (below_step (by repeat (first | (with_reducible first | exact HB.out | apply below_alloc | apply pw_below_drewN | apply below_drew1 | refine below_set ?_ GE771.out) | exact HB.out)) hb); clear HO777; clear BK771; clear HB; have HO777 := n0_; have HO783 := n1_; have BK771 := n2_; have HB := n3_; clear n0_ n1_ n2_ n3_; (try clear hb); (try clear hb2); (try clear hk); (try clear hi); (try clear ho0)) | ((with_reducible refine gate_dst (N := 5) rfl ?_); refine box_event ?hg (N := 5) ?hd (cs := #[.int .i64 0, .int .i64 0, .slice none 0 0]) (t := 37) ?hr ?_; (case hd => rfl); (case hg => rfl); (case hr => first | (go_simp; done) | (go_simp; rfl)); intro gb784 hg w24 hbox hb; have n0_ := Aside0.mk (Kd.S_below (by (with_reducible repeat (first | apply Kd.S_alloc | apply Kd.S_drewN | apply Kd.S_drew)); exact HO777.out) hb); have n1_ := Aside0.mk (Kd.S_below (by (with_reducible repeat (first | apply Kd.S_alloc | apply Kd.S_drewN | apply Kd.S_drew)); exact HO783.out) hb); have n2_ := Aside0.mk (blk_below (g := gb771) (o := .cells #[.int .i64 a0_0, .int .i64 a0_1, .slice A0_2 l0_2.length c0_2] 32 (0, 0)) (by (with_reducible repeat (first | refine blk_drewN ?_ _ | refine blk_drew ?_ | refine blk_alloc ?_ _)); exact BK771.out) hb); have n3_ := Aside0.mk (below_step (by repeat (first | (with_reducible first | exact HB.out | apply below_alloc | apply pw_below_drewN | apply below_drew1 | refine below_set ?_ GE771.out) | exact HB.out)) hb); have n4_ := Aside0.mk (hbox); have n5_ := Aside0.mk ((by rw [hg]; exact (below_size (by repeat (first | (with_reducible first | exact HB.out | apply below_alloc | apply pw_below_drewN | apply below_drew1 | refine below_set ?_ GE771.out) | exact HB.out))) : w.heap.size ≤ gb784)); have n6_ := Aside0.mk ((by rw [hg]; exact (below_size (by repeat (first | (with_reducible first | exact HB.out | apply below_alloc | apply pw_below_drewN | apply below_drew1 | refine below_set ?_ GE771.out) | exact HB.out))) : w.heap.size ≤ gb784)); have n7_ := Aside0.mk ((by rw [hg]; exact Nat.ne_of_lt (blk_lt (g := gb771) (o := .cells #[.int .i64 a0_0, .int .i64 a0_1, .slice A0_2 l0_2.length c0_2] 32 (0, 0)) (by (with_reducible repeat (first | refine blk_drewN ?_ _ | refine blk_drew ?_ | refine blk_alloc ?_ _)); exact BK771.out)) : gb771 ≠ gb784)); have n8_ := Aside0.mk ((by rw [hg]; exact Nat.ne_of_gt (blk_lt (g := gb771) (o := .cells #[.int .i64 a0_0, .int .i64 a0_1, .slice A0_2 l0_2.length c0_2] 32 (0, 0)) (by (with_reducible repeat (first | refine blk_drewN ?_ _ | refine blk_drew ?_ | refine blk_alloc ?_ _)); exact BK771.out)) : gb784 ≠ gb771)); clear HO777; clear HO783; clear BK771; clear HB; have HO777 := n0_; have HO783 := n1_; have BK771 := n2_; have HB := n3_; have BK784 := n4_; have GW784 := n5_; have GE784 := n6_; have NB771_784 := n7_; have NB784_771 := n8_; clear n0_ n1_ n2_ n3_ n4_ n5_ n6_ n7_ n8_; clear hb hbox hg; have hnb25 := NB784_771.out; have hnc25 := NB771_784.out; have hcz26_0 : w24.cell? ⟨gb784, 0, none⟩ = some (.int .i64 0) := (blk_cell BK784.out 0).trans rfl; have hcz26_1 : w24.cell? ⟨gb784, 1, none⟩ = some (.int .i64 0) := (blk_cell BK784.out 1).trans rfl; have hcz26_2 : w24.cell? ⟨gb784, 2, none⟩ = some (.slice none 0 0) := (blk_cell BK784.out 2).trans rfl; have hfz26_0 := blk_frozen BK784.out 0; have hfz26_1 := blk_frozen BK784.out 1; have hfz26_2 := blk_frozen BK784.out 2; obtain ⟨Ao27, co27, eo27⟩ := Kd.S_slice HO783.out; subst eo27) | ((with_reducible refine gate_callee (f := 44) rfl ?_); refine goesL_ (some 18) rfl rfl Try.func44 (by kernel_rfl) rfl #[.agg #[.int .i64 t779, .int .i64 t780, .slice Ao27 t781.length co27]] rfl (by (try simp only [List.map_toArray, List.map_cons, List.map_nil]); first | done | rfl | (simp only [List.length_drop, List.length_take]; rfl)) ?_; (with_reducible refine (impl_SolverPrefix.calls k t779 t780 _ _ t781 t785 _ ?side1 ?side2 A10.out).mono ?_); (case side1 => refine (Kd.S_reads' (e := 84) (base := w.heap.size) (ok := fun k_ => (True ∧ some k_ ≠ (.slice Ao20 t775.length co20 : Value).ownBlock)) (n := t781.length) (c := co27) ?_).2.2; exact (by (with_reducible repeat (first | apply Kd.S_alloc | apply Kd.S_drewN | apply Kd.S_drew)); exact (Kd.S_mono (Kd.S_far (p := ⟨gb784, 2, none⟩) (Kd.S_far (p := ⟨gb784, 1, none⟩) (Kd.S_far (p := ⟨gb784, 0, none⟩) (Kd.S_types HO783.out BK784.out (by decide)) (fun _ hk => hk.2) (.int .i64 t779)) (fun _ hk => hk.2) (.int .i64 t780)) (fun _ hk => hk.2) (.slice Ao27 t781.length co27)) (fun _ h_ => h_.1)))); (case side2 => exact (Kd.S_reads' HO783.out).2.1); rintro e w28 ⟨rfl, hb⟩; refine ⟨_, rfl, ?_⟩; have n0_ := Aside0.mk (Kd.S_below (by (with_reducible repeat (first | apply Kd.S_alloc | apply Kd.S_drewN | apply Kd.S_drew)); exact (Kd.S_mono (Kd.S_far (p := ⟨gb784, 2, none⟩) (Kd.S_far (p := ⟨gb784, 1, none⟩) (Kd.S_far (p := ⟨gb784, 0, none⟩) (Kd.S_types HO777.out BK784.out (by decide)) (fun _ hk => hk.2) (.int .i64 t779)) (fun _ hk => hk.2) (.int .i64 t780)) (fun _ hk => hk.2) (.slice Ao27 t781.length co27)) (fun _ h_ => h_.1))) hb); have n1_ := Aside0.mk (Kd.S_below (by (with_reducible repeat (first | apply Kd.S_alloc | apply Kd.S_drewN | apply Kd.S_drew)); exact (Kd.S_mono (Kd.S_far (p := ⟨gb784, 2, none⟩) (Kd.S_far (p := ⟨gb784, 1, none⟩) (Kd.S_far (p := ⟨gb784, 0, none⟩) (Kd.S_types HO783.out BK784.out (by decide)) (fun _ hk => hk.2) (.int .i64 t779)) (fun _ hk => hk.2) (.int .i64 t780)) (fun _ hk => hk.2) (.slice Ao27 t781.length co27)) (fun _ h_ => h_.1))) hb); have n2_ := Aside0.mk (blk_below (g := gb771) (o := .cells #[.int .i64 a0_0, .int .i64 a0_1, .slice A0_2 l0_2.length c0_2] 32 (0, 0)) (by (with_reducible repeat (first | refine blk_drewN ?_ _ | refine blk_drew ?_ | refine blk_alloc ?_ _)); refine blk_far ?_ NB771_784.out _; (with_reducible repeat (first | refine blk_drewN ?_ _ | refine blk_drew ?_ | refine blk_alloc ?_ _)); refine blk_far ?_ NB771_784.out _; (with_reducible repeat (first | refine blk_drewN ?_ _ | refine blk_drew ?_ | refine blk_alloc ?_ _)); refine blk_far ?_ NB771_784.out _; (with_reducible repeat (first | refine blk_drewN ?_ _ | refine blk_drew ?_ | refine blk_alloc ?_ _)); exact BK771.out) hb); have n3_ := Aside0.mk (blk_below (g := gb784) (o := .cells #[.int .i64 t779, .int .i64 t780, .slice Ao27 t781.length co27] 37 (0, 0)) (by (with_reducible repeat (first | refine blk_drewN ?_ _ | refine blk_drew ?_ | refine blk_alloc ?_ _)); refine blk_put (cs := #[.int .i64 t779, .int .i64 t780, .slice none 0 0]) ?_ 2 _ rfl; (with_reducible repeat (first | refine blk_drewN ?_ _ | refine blk_drew ?_ | refine blk_alloc ?_ _)); refine blk_put (cs := #[.int .i64 t779, .int .i64 0, .slice none 0 0]) ?_ 1 _ rfl; (with_reducible repeat (first | refine blk_drewN ?_ _ | refine blk_drew ?_ | refine blk_alloc ?_ _)); refine blk_put (cs := #[.int .i64 0, .int .i64 0, .slice none 0 0]) ?_ 0 _ rfl; (with_reducible repeat (first | refine blk_drewN ?_ _ | refine blk_drew ?_ | refine blk_alloc ?_ _)); exact BK784.out) hb); have n4_ := Aside0.mk (below_step (by repeat (first | (with_reducible first | exact HB.out | apply below_alloc | apply pw_below_drewN | apply below_drew1 | refine below_set ?_ GE771.out | refine below_set ?_ GE784.out) | exact HB.out)) hb); clear HO777; clear HO783; clear BK771; clear BK784; clear HB; have HO777 := n0_; have HO783 := n1_; have BK771 := n2_; have BK784 := n3_; have HB := n4_; clear n0_ n1_ n2_ n3_ n4_; (try clear hb); (try clear hb2); (try clear hk); (try clear hi)))
    have n0_ := Aside0.mk (Kd.S_drew HO777.out)
    have n1_ := Aside0.mk (Kd.S_drew HO783.out)
    have n2_ := Aside0.mk (blk_drew BK771.out)
    have n3_ := Aside0.mk (blk_drew BK784.out)
    have n4_ := Aside0.mk (below_drew1 HB.out)
    clear HO777
    clear HO783
    clear BK771
    clear BK784
    clear HB
    have HO777 := n0_
    have HO783 := n1_
    have BK771 := n2_
    have BK784 := n3_
    have HB := n4_
    clear n0_ n1_ n2_ n3_ n4_
    refine start_ (n := 5) (S := fun w' => w'.cell? ⟨gb784, 0, none⟩ = some (.int .i64 t779) ∧ w'.cell? ⟨gb784, 1, none⟩ = some (.int .i64 t780) ∧ w'.cell? ⟨gb784, 2, none⟩ = some (.slice Ao27 t781.length co27) ∧ w'.cell? ⟨gb771, 0, none⟩ = some (.int .i64 a0_0) ∧ w'.cell? ⟨gb771, 1, none⟩ = some (.int .i64 a0_1) ∧ w'.cell? ⟨gb771, 2, none⟩ = some (.slice A0_2 l0_2.length c0_2)) (ds := []) (.replicate 5 false) (by kernel_rfl) rfl rfl ⟨(blk_cell BK784.out 0).trans rfl, (blk_cell BK784.out 1).trans rfl, (blk_cell BK784.out 2).trans rfl, (blk_cell BK771.out 0).trans rfl, (blk_cell BK771.out 1).trans rfl, (blk_cell BK771.out 2).trans rfl⟩ (fun hHeld => ?_)
    generalize w28.drew = w29 at HO777 HO783 BK771 BK784 HB hHeld ⊢
    refine tk_ 0 (some 22) (bv 5 1) rfl rfl (by kernel_rfl) (fun _ _ _ h => h) (by rfl) hHeld (fun w' ⟨s0, s1, s2, s3, s4, s5⟩ => by go_simp; with_reducible rfl) (by simp only [Act.put, eA_, e0_, eS_, i64_w, i32_w]; rfl) ?_
    refine tk_ 1 (some 23) (bv 5 3) rfl rfl (by kernel_rfl) (fun _ _ _ h => h) (by rfl) hHeld (fun w' ⟨s0, s1, s2, s3, s4, s5⟩ => by go_simp; with_reducible rfl) (by simp only [Act.put, eA_, e0_, eS_, i64_w, i32_w]; rfl) ?_
    refine one_ (i := 2) (N := some 24) (bv 5 7) rfl rfl (by kernel_rfl) (by decide) (fun K hK => ?_)
    refine goes_ Try.func24 (by kernel_rfl) rfl #[.agg #[.int .i64 a0_0, .int .i64 a0_1, .slice A0_2 l0_2.length c0_2]] (by rfl) rfl rfl (by (try simp only [List.map_toArray, List.map_cons, List.map_nil]); first | done | rfl | (simp only [List.length_drop, List.length_take]; rfl)) ?_
    with_reducible refine (laws_toSolver.calls k a0_0 a0_1 _ _ l0_2 t786 t787 t788 _ ?side1 ?side2 A12.out).mono ?_
    (case side1 => exact gC (Kd.C_below HR0_2.out HB.out))
    (case side2 => exact HC0_2.out)
    rintro e w30 ⟨v789, rfl, ho0, hb⟩
    refine ⟨_, rfl, ?_⟩
    have n0_ := Aside0.mk (Kd.S_elder' (by (with_reducible repeat (first | apply Kd.S_alloc | apply Kd.S_drewN | apply Kd.S_drew)); exact HO777.out) (Kd.S_base ho0) hb)
    have n1_ := Aside0.mk (Kd.S_elder' (by (with_reducible repeat (first | apply Kd.S_alloc | apply Kd.S_drewN | apply Kd.S_drew)); exact HO783.out) (Kd.S_base ho0) hb)
    have n2_ := Aside0.mk (Kd.S_lower (Kd.S_new' (Kd.S_new' ho0 (Kd.S_lt (by (with_reducible repeat (first | apply Kd.S_alloc | apply Kd.S_drewN | apply Kd.S_drew)); exact HO777.out))) (Kd.S_lt (by (with_reducible repeat (first | apply Kd.S_alloc | apply Kd.S_drewN | apply Kd.S_drew)); exact HO783.out))) (below_size (gB HB.out)))
    have n3_ := Aside0.mk (blk_below (gK BK771.out) hb)
    have n4_ := Aside0.mk (blk_below (gK BK784.out) hb)
    have n5_ := Aside0.mk (below_step (gB HB.out) hb)
    clear HO777
    clear HO783
    clear BK771
    clear BK784
    clear HB
    have HO777 := n0_
    have HO783 := n1_
    have HO790 := n2_
    have BK771 := n3_
    have BK784 := n4_
    have HB := n5_
    clear n0_ n1_ n2_ n3_ n4_ n5_
    (try clear hb)
    (try clear hb2)
    (try clear hk)
    (try clear hi)
    (try clear ho0)
    obtain ⟨Ao31, co31, eo31⟩ := Kd.S_slice HO790.out
    (first | subst eo31 | (injection eo31 with f1_ f2_ f3_; have f4_ := f1_.symm; have f5_ := f3_.symm; clear f1_ f2_ f3_; subst f4_; subst f5_))
    refine hK.out _ _ ⟨cz_ BK784.out 0 rfl, cz_ BK784.out 1 rfl, cz_ BK784.out 2 rfl, cz_ BK771.out 0 rfl, cz_ BK771.out 1 rfl, cz_ BK771.out 2 rfl⟩ (fun hHeld => ?_)
    clear hK K
    refine norm_ (a' := ?_) ?_ ?_
    rotate_left
    ·show Act.put _ (some 24) _ = _
     simp only [Act.put, eA_, e0_, eS_, i64_w, i32_w]
     rfl
    refine one_ (i := 3) (N := some 25) (bv 5 15) rfl rfl (by kernel_rfl) (by decide) (fun K hK => ?_)
    refine goes_ Try.func26 (by kernel_rfl) rfl #[.agg #[.int .i64 t779, .int .i64 t780, .slice Ao27 t781.length co27], .agg #[.int .i64 t786, .int .i64 t787, .slice Ao31 t788.length co31]] (by rfl) rfl rfl (by (try simp only [List.map_toArray, List.map_cons, List.map_nil]); first | done | rfl | (simp only [List.length_drop, List.length_take]; rfl)) ?_
    with_reducible refine (laws_eqSolver.calls k t779 t780 _ _ t781 t786 t787 _ _ t788 true _ ?side1 ?side2 ?side3 ?side4 A13.out).mono ?_
    (case side1 => repeat (first | exact (Kd.S_reads' HO783.out).2.2 | (with_reducible refine Kd.C_alloc ?_ _) | (with_reducible refine Kd.C_drewN ?_ _) | (with_reducible refine Kd.C_drew ?_)))
    (case side2 => exact (Kd.S_reads' HO783.out).2.1)
    (case side3 => repeat (first | exact (Kd.S_reads' HO790.out).2.2 | (with_reducible refine Kd.C_alloc ?_ _) | (with_reducible refine Kd.C_drewN ?_ _) | (with_reducible refine Kd.C_drew ?_)))
    (case side4 => exact (Kd.S_reads' HO790.out).2.1)
    rintro e w32 ⟨rfl, hb⟩
    refine ⟨_, rfl, ?_⟩
    have n0_ := Aside0.mk (Kd.S_below (by (with_reducible repeat (first | apply Kd.S_alloc | apply Kd.S_drewN | apply Kd.S_drew)); exact HO777.out) hb)
    have n1_ := Aside0.mk (Kd.S_below (by (with_reducible repeat (first | apply Kd.S_alloc | apply Kd.S_drewN | apply Kd.S_drew)); exact HO783.out) hb)
    have n2_ := Aside0.mk (Kd.S_below (by (with_reducible repeat (first | apply Kd.S_alloc | apply Kd.S_drewN | apply Kd.S_drew)); exact HO790.out) hb)
    have n3_ := Aside0.mk (blk_below (gK BK771.out) hb)
    have n4_ := Aside0.mk (blk_below (gK BK784.out) hb)
    have n5_ := Aside0.mk (below_step (gB HB.out) hb)
    clear HO777
    clear HO783
    clear HO790
    clear BK771
    clear BK784
    clear HB
    have HO777 := n0_
    have HO783 := n1_
    have HO790 := n2_
    have BK771 := n3_
    have BK784 := n4_
    have HB := n5_
    clear n0_ n1_ n2_ n3_ n4_ n5_
    (try clear hb)
    (try clear hb2)
    (try clear hk)
    (try clear hi)
    refine hK.out _ _ ⟨cz_ BK784.out 0 rfl, cz_ BK784.out 1 rfl, cz_ BK784.out 2 rfl, cz_ BK771.out 0 rfl, cz_ BK771.out 1 rfl, cz_ BK771.out 2 rfl⟩ (fun hHeld => ?_)
    clear hK K
    refine norm_ (a' := ?_) ?_ ?_
    rotate_left
    ·show Act.put _ (some 25) _ = _
     simp only [Act.put, eA_, e0_, eS_, i64_w, i32_w]
     rfl
    refine pu_ 4 (some 26) (bv 5 31) rfl rfl (by kernel_rfl) (fun _ _ _ h => h) (by rfl) (fun w' => by go_simp; with_reducible rfl) (by simp only [Act.put, eA_, e0_, eS_, i64_w, i32_w]; rfl) ?_
    refine done_ (by kernel_rfl) ?_
    try go_wp2
    go_ret
    exact ⟨by first | rfl | (simp [errW_none, errW_some] <;> rfl) | (simp [*, errW_none, errW_some] <;> rfl), by repeat (first | (with_reducible first | exact HB.out | apply below_alloc | apply pw_below_drewN | apply below_drew1 | refine below_set ?_ GE771.out | refine below_set ?_ GE784.out) | exact HB.out)⟩
   ·replace c14 := Bool.eq_false_iff.mpr c14
    subst c14
    have H1 : (some false) = some true := by rw [if_neg (show ¬ (false = true) by decide)] at H; exact H
    clear H
    have H := H1
    clear H1
    exact absurd H (by simp)
  ·rw [if_neg c11] at H
   have c11b0 : (t785 == t778) = false := beq_eq_false_iff_ne.mpr c11
   have c11b1 : (t785 != t778) = true := bne_iff_ne.mpr c11
   exact absurd H (by simp)

end Go.Proofs.Ytaeeickboakmgaa.X
