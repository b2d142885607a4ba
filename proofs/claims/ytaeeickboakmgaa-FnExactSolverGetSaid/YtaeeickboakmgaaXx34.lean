/- Printed for this claim by the session's program (the kit's printer, several laws in one place): the functions that the law reaches, each as a plain Lean function, and the proof that the Go code comes to its answers. Conditions: none beside those that each theorem states. -/
import Derived.Test.YtaeeickboakmgaaXx0
import Derived.Test.YtaeeickboakmgaaXx8
import Derived.Test.YtaeeickboakmgaaXx10
import Derived.Test.YtaeeickboakmgaaXx12
import Derived.Test.YtaeeickboakmgaaXx32
import Derived.Test.YtaeeickboakmgaaWStep
namespace Go.Proofs.Ytaeeickboakmgaa.X
open Go.RowKit Go.Proofs.YtaeeickboakmgaaW.PrintWords Go.Proofs.YtaeeickboakmgaaW.PrintLast Go.Proofs.YtaeeickboakmgaaW.PrintStep Go.Proofs.YtaeeickboakmgaaW.PrintMore
attribute [local go_sem] max2_int min2_int max_two min_two max_three min_three max_four min_four   -- for this text's walks alone
set_option linter.unusedVariables false
set_option linter.unusedSimpArgs false

/-! ### laws_FnExactSolverGet: function 8 -/
def laws_FnExactSolverGet.j0 : Nat → Bool → Int → Int → List (S102) → Int → Int → List (S84) → Option (Bool)
 | 0, _, _, _, _, _, _, _ => none
 | k + 1, x38, x737000, x737001, x737002, x751000, x751001, x751002 => if x38 = true then (some false) else ((laws_toSolver.f k x737000 x737001 x737002).bind fun bt753 => ((laws_eqSolver.f k x751000 x751001 x751002 bt753.1 bt753.2.1 bt753.2.2).bind fun t758 => (if t758 = true then (some true) else (some false))))
def laws_FnExactSolverGet.f (k : Nat) (a0_0 : Int) (a0_1 : Int) (l0_2 : List (S102)) (a1 : Int) : Option (Bool) := (laws_szSolver.f k a0_0 a0_1 l0_2 1048576).bind fun t737 => (if t737 < 0 then (some true) else ((laws_toSolver.f k a0_0 a0_1 l0_2).bind fun bt738 => ((spec_SolverGet.f k bt738.1 bt738.2.1 bt738.2.2 a1).bind fun bt743 => ((laws_toSolver.f k a0_0 a0_1 l0_2).bind fun bt745 => ((impl_SolverGet.f k bt745.1 bt745.2.1 bt745.2.2 a1).bind fun bt751 => (if bt751.1.toList = bt743.1.toList then (laws_FnExactSolverGet.j0 k (bt751.2 != bt743.2) a0_0 a0_1 l0_2 bt745.1 bt745.2.1 bt745.2.2) else (laws_FnExactSolverGet.j0 k true a0_0 a0_1 l0_2 bt745.1 bt745.2.1 bt745.2.2)))))))
theorem laws_FnExactSolverGet.mono_l : ∀ k, (∀ y0 y1 y2 y3 y4 y5 y6, LeO (laws_FnExactSolverGet.j0 k y0 y1 y2 y3 y4 y5 y6) (laws_FnExactSolverGet.j0 (k + 1) y0 y1 y2 y3 y4 y5 y6))
 | 0 => fun _ _ _ _ _ _ _ r h => by simp [laws_FnExactSolverGet.j0] at h
 | k + 1 => by
  have ih0 := laws_FnExactSolverGet.mono_l k
  ·intro y0 y1 y2 y3 y4 y5 y6
   unfold laws_FnExactSolverGet.j0
   repeat' first
   | (with_reducible exact ih0 _ _ _ _ _ _ _)
   | (with_reducible exact impl_SolverGet.mono _ _ _ _ _)
   | (with_reducible exact laws_eqSolver.mono _ _ _ _ _ _ _)
   | (with_reducible exact laws_szSolver.mono _ _ _ _ _)
   | (with_reducible exact laws_toSolver.mono _ _ _ _)
   | (with_reducible exact spec_SolverGet.mono _ _ _ _ _)
   | (with_reducible exact LeO.refl _)
   | (with_reducible exact LeO.none _)
   | (with_reducible refine LeO.ite ?_ ?_)
   | (with_reducible refine LeO.bind ?_ (fun _ => ?_))
   | exact ih0 _ _ _ _ _ _ _
   | exact impl_SolverGet.mono _ _ _ _ _
   | exact laws_eqSolver.mono _ _ _ _ _ _ _
   | exact laws_szSolver.mono _ _ _ _ _
   | exact laws_toSolver.mono _ _ _ _
   | exact spec_SolverGet.mono _ _ _ _ _
   | exact LeO.none _
   | refine LeO.ite ?_ ?_
   | refine LeO.bind ?_ (fun _ => ?_)
theorem laws_FnExactSolverGet.mono : ∀ a0 a1 a2 a3 k, LeO (laws_FnExactSolverGet.f k a0 a1 a2 a3) (laws_FnExactSolverGet.f (k + 1) a0 a1 a2 a3) := by
 intro a0 a1 a2 a3 k
 have ih0 := laws_FnExactSolverGet.mono_l k
 unfold laws_FnExactSolverGet.f
 repeat' first
  | (with_reducible exact ih0 _ _ _ _ _ _ _)
  | (with_reducible exact impl_SolverGet.mono _ _ _ _ _)
  | (with_reducible exact laws_eqSolver.mono _ _ _ _ _ _ _)
  | (with_reducible exact laws_szSolver.mono _ _ _ _ _)
  | (with_reducible exact laws_toSolver.mono _ _ _ _)
  | (with_reducible exact spec_SolverGet.mono _ _ _ _ _)
  | (with_reducible exact LeO.refl _)
  | (with_reducible exact LeO.none _)
  | (with_reducible refine LeO.ite ?_ ?_)
  | (with_reducible refine LeO.bind ?_ (fun _ => ?_))
  | exact ih0 _ _ _ _ _ _ _
  | exact impl_SolverGet.mono _ _ _ _ _
  | exact laws_eqSolver.mono _ _ _ _ _ _ _
  | exact laws_szSolver.mono _ _ _ _ _
  | exact laws_toSolver.mono _ _ _ _
  | exact spec_SolverGet.mono _ _ _ _ _
  | exact LeO.none _
  | refine LeO.ite ?_ ?_
  | refine LeO.bind ?_ (fun _ => ?_)
set_option maxHeartbeats 8000000 in
set_option maxRecDepth 100000 in
theorem laws_FnExactSolverGet.calls (k : Nat) (a0_0 : Int) (a0_1 : Int) (A0_2 : Option Addr) (c0_2 : Nat) (l0_2 : List (S102)) (a1 : Int) (w : World) (hr0_2 : Kd.C k102 w A0_2 l0_2.length l0_2) (hc0_2 : l0_2.length ≤ c0_2) (h : laws_FnExactSolverGet.f k a0_0 a0_1 l0_2 a1 = some true) :
 Calls Try.prog 8 #[.agg #[.int .i64 a0_0, .int .i64 a0_1, .slice A0_2 l0_2.length c0_2], .int .i64 a1] w fun e w' => e = .returned (.bool true) ∧ Below w.heap.size w w' := by
 have hu32 := Try.underlying32
 have hu37 := Try.underlying37
 have HR0_2 := Aside0.mk hr0_2
 have HC0_2 := Aside0.mk hc0_2
 clear hr0_2 hc0_2
 have HB := Aside0.mk (Below.refl w.heap.size w)
 have H : ((laws_szSolver.f k a0_0 a0_1 l0_2 1048576).bind fun t737 => (if t737 < 0 then (some true) else ((laws_toSolver.f k a0_0 a0_1 l0_2).bind fun bt738 => ((spec_SolverGet.f k bt738.1 bt738.2.1 bt738.2.2 a1).bind fun bt743 => ((laws_toSolver.f k a0_0 a0_1 l0_2).bind fun bt745 => ((impl_SolverGet.f k bt745.1 bt745.2.1 bt745.2.2 a1).bind fun bt751 => (if bt751.1.toList = bt743.1.toList then (laws_FnExactSolverGet.j0 k (bt751.2 != bt743.2) a0_0 a0_1 l0_2 bt745.1 bt745.2.1 bt745.2.2) else (laws_FnExactSolverGet.j0 k true a0_0 a0_1 l0_2 bt745.1 bt745.2.1 bt745.2.2)))))))) = some true := h
 clear h
 replace H := bI_ H
 obtain ⟨t737, A30, H⟩ := H
 replace H : (if t737 < 0 then (some true) else ((laws_toSolver.f k a0_0 a0_1 l0_2).bind fun bt738 => ((spec_SolverGet.f k bt738.1 bt738.2.1 bt738.2.2 a1).bind fun bt743 => ((laws_toSolver.f k a0_0 a0_1 l0_2).bind fun bt745 => ((impl_SolverGet.f k bt745.1 bt745.2.1 bt745.2.2 a1).bind fun bt751 => (if bt751.1.toList = bt743.1.toList then (laws_FnExactSolverGet.j0 k (bt751.2 != bt743.2) a0_0 a0_1 l0_2 bt745.1 bt745.2.1 bt745.2.2) else (laws_FnExactSolverGet.j0 k true a0_0 a0_1 l0_2 bt745.1 bt745.2.1 bt745.2.2))))))) = some true := H
 have A3 := Aside0.mk A30
 clear A30
 by_cases c4 : t737 < 0
 ·rw [if_pos c4] at H
  have c4b0 : decide (t737 < 0) = true := decide_eq_true c4
  clear c4
  clear H
  go_enter Try.func8, Try.ntmps8
  go_wp2_with (first | ((with_reducible refine gate_dst (N := 2) rfl ?_); refine box_event ?hg (N := 2) ?hd (cs := #[.int .i64 a0_0, .int .i64 a0_1, .slice A0_2 l0_2.length c0_2]) (t := 32) ?hr ?_; (case hd => rfl); (case hg => rfl); (case hr => first | (go_simp; done) | (go_simp; rfl)); intro gb736 hg w5 hbox hb; have n0_ := Aside0.mk (below_step (gB HB.out) hb); have n1_ := Aside0.mk (hbox); have n2_ := Aside0.mk ((by rw [hg]; exact (below_size (gB HB.out)) : w.heap.size ≤ gb736)); have n3_ := n2_; clear HB; have HB := n0_; have BK736 := n1_; have GW736 := n2_; have GE736 := n3_; clear n0_ n1_ n2_ n3_; clear hb hbox hg; have hcz6_0 := cz_ BK736.out 0 rfl; have hcz6_1 := cz_ BK736.out 1 rfl; have hcz6_2 := cz_ BK736.out 2 rfl; have hfz6_0 := blk_frozen BK736.out 0; have hfz6_1 := blk_frozen BK736.out 1; have hfz6_2 := blk_frozen BK736.out 2) | ((with_reducible refine gate_callee (f := 22) rfl ?_); refine goesL_ (some 13) rfl rfl Try.func22 (by kernel_rfl) rfl #[.agg #[.int .i64 a0_0, .int .i64 a0_1, .slice A0_2 l0_2.length c0_2], .int .i64 1048576] rfl (by (try simp only [List.map_toArray, List.map_cons, List.map_nil]); first | done | rfl | (simp only [List.length_drop, List.length_take]; rfl)) ?_; (with_reducible refine (laws_szSolver.calls k a0_0 a0_1 _ _ l0_2 1048576 t737 _ ?side1 ?side2 A3.out).mono ?_); (case side1 => exact gC (Kd.C_below HR0_2.out HB.out)); (case side2 => exact HC0_2.out); rintro e w7 ⟨rfl, hb⟩; refine ⟨_, rfl, ?_⟩; have n0_ := Aside0.mk (blk_below (gK BK736.out) hb); have n1_ := Aside0.mk (below_step (gB HB.out) hb); clear BK736; clear HB; have BK736 := n0_; have HB := n1_; clear n0_ n1_; (try clear hb); (try clear hb2); (try clear hk); (try clear hi)))
  go_ret
  exact ⟨by first | rfl | (simp [errW_none, errW_some] <;> rfl) | (simp [*, errW_none, errW_some] <;> rfl), by repeat (first | (with_reducible first | exact HB.out | apply below_alloc | apply pw_below_drewN | apply below_drew1 | refine below_set ?_ GE736.out) | exact HB.out)⟩
 ·rw [if_neg c4] at H
  have c4b0 : decide (t737 < 0) = false := decide_eq_false c4
  clear c4
  replace H := bI_ H
  obtain ⟨⟨t738, t739, t740⟩, A80, H⟩ := H
  replace H : ((spec_SolverGet.f k t738 t739 t740 a1).bind fun bt743 => ((laws_toSolver.f k a0_0 a0_1 l0_2).bind fun bt745 => ((impl_SolverGet.f k bt745.1 bt745.2.1 bt745.2.2 a1).bind fun bt751 => (if bt751.1.toList = bt743.1.toList then (laws_FnExactSolverGet.j0 k (bt751.2 != bt743.2) a0_0 a0_1 l0_2 bt745.1 bt745.2.1 bt745.2.2) else (laws_FnExactSolverGet.j0 k true a0_0 a0_1 l0_2 bt745.1 bt745.2.1 bt745.2.2))))) = some true := H
  have A8 := Aside0.mk A80
  clear A80
  replace H := bI_ H
  obtain ⟨⟨t743, t744⟩, A90, H⟩ := H
  replace H : ((laws_toSolver.f k a0_0 a0_1 l0_2).bind fun bt745 => ((impl_SolverGet.f k bt745.1 bt745.2.1 bt745.2.2 a1).bind fun bt751 => (if bt751.1.toList = t743.toList then (laws_FnExactSolverGet.j0 k (bt751.2 != t744) a0_0 a0_1 l0_2 bt745.1 bt745.2.1 bt745.2.2) else (laws_FnExactSolverGet.j0 k true a0_0 a0_1 l0_2 bt745.1 bt745.2.1 bt745.2.2)))) = some true := H
  have A9 := Aside0.mk A90
  clear A90
  replace H := bI_ H
  obtain ⟨⟨t745, t746, t747⟩, A100, H⟩ := H
  replace H : ((impl_SolverGet.f k t745 t746 t747 a1).bind fun bt751 => (if bt751.1.toList = t743.toList then (laws_FnExactSolverGet.j0 k (bt751.2 != t744) a0_0 a0_1 l0_2 t745 t746 t747) else (laws_FnExactSolverGet.j0 k true a0_0 a0_1 l0_2 t745 t746 t747))) = some true := H
  have A10 := Aside0.mk A100
  clear A100
  replace H := bI_ H
  obtain ⟨⟨t751, t752⟩, A110, H⟩ := H
  replace H : (if t751.toList = t743.toList then (laws_FnExactSolverGet.j0 k (t752 != t744) a0_0 a0_1 l0_2 t745 t746 t747) else (laws_FnExactSolverGet.j0 k true a0_0 a0_1 l0_2 t745 t746 t747)) = some true := H
  have A11 := Aside0.mk A110
  clear A110
  have HC12 := Aside0.mk H
  clear H
  go_enter Try.func8, Try.ntmps8
  go_upto_region 8 with (first | ((with_reducible refine gate_dst (N := 2) rfl ?_); refine box_event ?hg (N := 2) ?hd (cs := #[.int .i64 a0_0, .int .i64 a0_1, .slice A0_2 l0_2.length c0_2]) (t := 32) ?hr ?_; (case hd => rfl); (case hg => rfl); (case hr => first | (go_simp; done) | (go_simp; rfl)); intro gb736 hg w13 hbox hb; have n0_ := Aside0.mk (below_step (by repeat (first | (with_reducible first | exact HB.out | apply below_alloc | apply pw_below_drewN | apply below_drew1) | exact HB.out)) hb); have n1_ := Aside0.mk (hbox); have n2_ := Aside0.mk ((by rw [hg]; exact (below_size (by repeat (first | (with_reducible first | exact HB.out | apply below_alloc | apply pw_below_drewN | apply below_drew1) | exact HB.out))) : w.heap.size ≤ gb736)); have n3_ := Aside0.mk ((by rw [hg]; exact (below_size (by repeat (first | (with_reducible first | exact HB.out | apply below_alloc | apply pw_below_drewN | apply below_drew1) | exact HB.out))) : w.heap.size ≤ gb736)); clear HB; have HB := n0_; have BK736 := n1_; have GW736 := n2_; have GE736 := n3_; clear n0_ n1_ n2_ n3_; clear hb hbox hg; have hcz14_0 : w13.cell? ⟨gb736, 0, none⟩ = some (.int .i64 a0_0) := (blk_cell BK736.out 0).trans rfl; have hcz14_1 : w13.cell? ⟨gb736, 1, none⟩ = some (.int .i64 a0_1) := (blk_cell BK736.out 1).trans rfl; have hcz14_2 : w13.cell? ⟨gb736, 2, none⟩ = some (.slice A0_2 l0_2.length c0_2) := (blk_cell BK736.out 2).trans rfl; have hfz14_0 := blk_frozen BK736.out 0; have hfz14_1 := blk_frozen BK736.out 1; have hfz14_2 := blk_frozen BK736.out 2) | ((with_reducible refine gate_callee (f := 22) rfl ?_); refine goesL_ (some 13) rfl rfl Try.func22 (by kernel_rfl) rfl #[.agg #[.int .i64 a0_0, .int .i64 a0_1, .slice A0_2 l0_2.length c0_2], .int .i64 1048576] rfl (by (try simp only [List.map_toArray, List.map_cons, List.map_nil]); first | done | rfl | (simp only [List.length_drop, List.length_take]; rfl)) ?_; (with_reducible refine (laws_szSolver.calls k a0_0 a0_1 _ _ l0_2 1048576 t737 _ ?side1 ?side2 A3.out).mono ?_); (case side1 => repeat (first | exact (Kd.C_below HR0_2.out HB.out) | (with_reducible refine Kd.C_alloc ?_ _) | (with_reducible refine Kd.C_drewN ?_ _) | (with_reducible refine Kd.C_drew ?_))); (case side2 => exact HC0_2.out); rintro e w15 ⟨rfl, hb⟩; refine ⟨_, rfl, ?_⟩; have n0_ := Aside0.mk (blk_below (g := gb736) (o := .cells #[.int .i64 a0_0, .int .i64 a0_1, .slice A0_2 l0_2.length c0_2] 32 (0, 0)) (by (with_reducible repeat (first | refine blk_drewN ?_ _ | refine blk_drew ?_ | refine blk_alloc ?_ _)); exact BK736.out) hb); have n1_ := Aside0.mk (below_step (by repeat (first | (with_reducible first | exact HB.out | apply below_alloc | apply pw_below_drewN | apply below_drew1 | refine below_set ?_ GE736.out) | exact HB.out)) hb); clear BK736; clear HB; have BK736 := n0_; have HB := n1_; clear n0_ n1_; (try clear hb); (try clear hb2); (try clear hk); (try clear hi); have hcz16_0 : w15.cell? ⟨gb736, 0, none⟩ = some (.int .i64 a0_0) := (blk_cell BK736.out 0).trans rfl; have hcz16_1 : w15.cell? ⟨gb736, 1, none⟩ = some (.int .i64 a0_1) := (blk_cell BK736.out 1).trans rfl; have hcz16_2 : w15.cell? ⟨gb736, 2, none⟩ = some (.slice A0_2 l0_2.length c0_2) := (blk_cell BK736.out 2).trans rfl; have hfz16_0 := blk_frozen BK736.out 0; have hfz16_1 := blk_frozen BK736.out 1; have hfz16_2 := blk_frozen BK736.out 2) | ((with_reducible refine gate_callee (f := 24) rfl ?_); refine goesL_ (some 18) rfl rfl Try.func24 (by kernel_rfl) rfl #[.agg #[.int .i64 a0_0, .int .i64 a0_1, .slice A0_2 l0_2.length c0_2]] rfl (by (try simp only [List.map_toArray, List.map_cons, List.map_nil]); first | done | rfl | (simp only [List.length_drop, List.length_take]; rfl)) ?_; (with_reducible refine (laws_toSolver.calls k a0_0 a0_1 _ _ l0_2 t738 t739 t740 _ ?side1 ?side2 A8.out).mono ?_); (case side1 => repeat (first | exact (Kd.C_below HR0_2.out HB.out) | (with_reducible refine Kd.C_alloc ?_ _) | (with_reducible refine Kd.C_drewN ?_ _) | (with_reducible refine Kd.C_drew ?_))); (case side2 => exact HC0_2.out); rintro e w17 ⟨v741, rfl, ho0, hb⟩; refine ⟨_, rfl, ?_⟩; have n0_ := Aside0.mk (Kd.S_lower ho0 (below_size (by repeat (first | (with_reducible first | exact HB.out | apply below_alloc | apply pw_below_drewN | apply below_drew1 | refine below_set ?_ GE736.out) | exact HB.out)))); have n1_ := Aside0.mk (blk_below (g := gb736) (o := .cells #[.int .i64 a0_0, .int .i64 a0_1, .slice A0_2 l0_2.length c0_2] 32 (0, 0)) (by (with_reducible repeat (first | refine blk_drewN ?_ _ | refine blk_drew ?_ | refine blk_alloc ?_ _)); exact BK736.out) hb); have n2_ := Aside0.mk (below_step (by repeat (first | (with_reducible first | exact HB.out | apply below_alloc | apply pw_below_drewN | apply below_drew1 | refine below_set ?_ GE736.out) | exact HB.out)) hb); clear BK736; clear HB; have HO742 := n0_; have BK736 := n1_; have HB := n2_; clear n0_ n1_ n2_; (try clear hb); (try clear hb2); (try clear hk); (try clear hi); (try clear ho0); obtain ⟨Ao18, co18, eo18⟩ := Kd.S_slice HO742.out; subst eo18) | ((with_reducible refine gate_callee (f := 41) rfl ?_); refine goesL_ (some 20) rfl rfl Try.func41 (by kernel_rfl) rfl #[.agg #[.int .i64 t738, .int .i64 t739, .slice Ao18 t740.length co18], .int .i64 a1] rfl (by (try simp only [List.map_toArray, List.map_cons, List.map_nil]); first | done | rfl | (simp only [List.length_drop, List.length_take]; rfl)) ?_; (with_reducible refine (spec_SolverGet.calls k t738 t739 _ _ t740 a1 t743 t744 _ ?side1 ?side2 A9.out).mono ?_); (case side1 => repeat (first | exact (Kd.S_reads' HO742.out).2.2 | (with_reducible refine Kd.C_alloc ?_ _) | (with_reducible refine Kd.C_drewN ?_ _) | (with_reducible refine Kd.C_drew ?_))); (case side2 => exact (Kd.S_reads' HO742.out).2.1); rintro e w19 ⟨rfl, hb⟩; refine ⟨_, rfl, ?_⟩; have n0_ := Aside0.mk (Kd.S_below (by (with_reducible repeat (first | apply Kd.S_alloc | apply Kd.S_drewN | apply Kd.S_drew)); exact HO742.out) hb); have n1_ := Aside0.mk (blk_below (g := gb736) (o := .cells #[.int .i64 a0_0, .int .i64 a0_1, .slice A0_2 l0_2.length c0_2] 32 (0, 0)) (by (with_reducible repeat (first | refine blk_drewN ?_ _ | refine blk_drew ?_ | refine blk_alloc ?_ _)); exact BK736.out) hb); have n2_ := Aside0.mk (below_step (by repeat (first | (with_reducible first | exact HB.out | apply below_alloc | apply pw_below_drewN | apply below_drew1 | refine below_set ?_ GE736.out) | exact HB.out)) hb); clear HO742; clear BK736; clear HB; have HO742 := n0_; have BK736 := n1_; have HB := n2_; clear n0_ n1_ n2_; (try clear hb); (try clear hb2); (try clear hk); (try clear hi); have hcz20_0 : w19.cell? ⟨gb736, 0, none⟩ = some (.int .i64 a0_0) := (blk_cell BK736.out 0).trans rfl; have hcz20_1 : w19.cell? ⟨gb736, 1, none⟩ = some (.int .i64 a0_1) := (blk_cell BK736.out 1).trans rfl; have hcz20_2 : w19.cell? ⟨gb736, 2, none⟩ = some (.slice A0_2 l0_2.length c0_2) := (blk_cell BK736.out 2).trans rfl; have hfz20_0 := blk_frozen BK736.out 0; have hfz20_1 := blk_frozen BK736.out 1; have hfz20_2 := blk_frozen BK736.out 2) | ((with_reducible refine gate_callee (f := 24) rfl ?_); refine goesL_ (some 24) rfl rfl Try.func24 (by kernel_rfl) rfl #[.agg #[.int .i64 a0_0, .int .i64 a0_1, .slice A0_2 l0_2.length c0_2]] rfl (by (try simp only [List.map_toArray, List.map_cons, List.map_nil]); first | done | rfl | (simp only [List.length_drop, List.length_take]; rfl)) ?_; (with_reducible refine (laws_toSolver.calls k a0_0 a0_1 _ _ l0_2 t745 t746 t747 _ ?side1 ?side2 A10.out).mono ?_); (case side1 => repeat (first | exact (Kd.C_below HR0_2.out HB.out) | (with_reducible refine Kd.C_alloc ?_ _) | (with_reducible refine Kd.C_drewN ?_ _) | (with_reducible refine Kd.C_drew ?_))); (case side2 => exact HC0_2.out); rintro e w21 ⟨v748, rfl, ho0, hb⟩; refine ⟨_, rfl, ?_⟩; have n0_ := Aside0.mk (Kd.S_elder' (by (with_reducible repeat (first | apply Kd.S_alloc | apply Kd.S_drewN | apply Kd.S_drew)); exact HO742.out) (Kd.S_base ho0) hb); have n1_ := Aside0.mk (Kd.S_lower (Kd.S_new' ho0 (Kd.S_lt (by (with_reducible repeat (first | apply Kd.S_alloc | apply Kd.S_drewN | apply Kd.S_drew)); exact HO742.out))) (below_size (by repeat (first | (with_reducible first | exact HB.out | apply below_alloc | apply pw_below_drewN | apply below_drew1 | refine below_set ?_ GE736.out) | exact HB.out)))); have n2_ := Aside0.mk (blk_below (g := gb736) (o := .cells #[.int .i64 a0_0, .int .i64 a0_1, .slice A0_2 l0_2.length c0_2] 32 (0, 0)) (by (with_reducible repeat (first | refine blk_drewN ?_ _ | refine blk_drew ?_ | refine blk_alloc ?_ _)); exact BK736.out) hb); have n3_ := Aside0.mk (below_step (by repeat (first | (with_reducible first | exact HB.out | apply below_alloc | apply pw_below_drewN | apply below_drew1 | refine below_set ?_ GE736.out) | exact HB.out)) hb); clear HO742; clear BK736; clear HB; have HO742 := n0_; have HO749 := n1_; have BK736 := n2_; have HB := n3_; clear n0_ n1_ n2_ n3_; (try clear hb); (try clear hb2); (try clear hk); (try clear hi); (try clear ho0)) | ((with_reducible refine gate_dst (N := 8) rfl ?_); refine box_event ?hg (N := 8) ?hd (cs := #[.int .i64 0, .int .i64 0, .slice none 0 0]) (t := 37) ?hr ?_; (case hd => rfl); (case hg => rfl); (case hr => first | (go_simp; done) | (go_simp; rfl)); intro gb750 hg w22 hbox hb; have n0_ := Aside0.mk (Kd.S_below (by (with_reducible repeat (first | apply Kd.S_alloc | apply Kd.S_drewN | apply Kd.S_drew)); exact HO742.out) hb); have n1_ := Aside0.mk (Kd.S_below (by (with_reducible repeat (first | apply Kd.S_alloc | apply Kd.S_drewN | apply Kd.S_drew)); exact HO749.out) hb); have n2_ := Aside0.mk (blk_below (g := gb736) (o := .cells #[.int .i64 a0_0, .int .i64 a0_1, .slice A0_2 l0_2.length c0_2] 32 (0, 0)) (by (with_reducible repeat (first | refine blk_drewN ?_ _ | refine blk_drew ?_ | refine blk_alloc ?_ _)); exact BK736.out) hb); have n3_ := Aside0.mk (below_step (by repeat (first | (with_reducible first | exact HB.out | apply below_alloc | apply pw_below_drewN | apply below_drew1 | refine below_set ?_ GE736.out) | exact HB.out)) hb); have n4_ := Aside0.mk (hbox); have n5_ := Aside0.mk ((by rw [hg]; exact (below_size (by repeat (first | (with_reducible first | exact HB.out | apply below_alloc | apply pw_below_drewN | apply below_drew1 | refine below_set ?_ GE736.out) | exact HB.out))) : w.heap.size ≤ gb750)); have n6_ := Aside0.mk ((by rw [hg]; exact (below_size (by repeat (first | (with_reducible first | exact HB.out | apply below_alloc | apply pw_below_drewN | apply below_drew1 | refine below_set ?_ GE736.out) | exact HB.out))) : w.heap.size ≤ gb750)); have n7_ := Aside0.mk ((by rw [hg]; exact Nat.ne_of_lt (blk_lt (g := gb736) (o := .cells #[.int .i64 a0_0, .int .i64 a0_1, .slice A0_2 l0_2.length c0_2] 32 (0, 0)) (by (with_reducible repeat (first | refine blk_drewN ?_ _ | refine blk_drew ?_ | refine blk_alloc ?_ _)); exact BK736.out)) : gb736 ≠ gb750)); have n8_ := Aside0.mk ((by rw [hg]; exact Nat.ne_of_gt (blk_lt (g := gb736) (o := .cells #[.int .i64 a0_0, .int .i64 a0_1, .slice A0_2 l0_2.length c0_2] 32 (0, 0)) (by (with_reducible repeat (first | refine blk_drewN ?_ _ | refine blk_drew ?_ | refine blk_alloc ?_ _)); exact BK736.out)) : gb750 ≠ gb736)); clear HO742; clear HO749; clear BK736; clear HB; have HO742 := n0_; have HO749 := n1_; have BK736 := n2_; have HB := n3_; have BK750 := n4_; have GW750 := n5_; have GE750 := n6_; have NB736_750 := n7_; have NB750_736 := n8_; clear n0_ n1_ n2_ n3_ n4_ n5_ n6_ n7_ n8_; clear hb hbox hg; have hnb23 := NB750_736.out; have hnc23 := NB736_750.out; have hcz24_0 : w22.cell? ⟨gb750, 0, none⟩ = some (.int .i64 0) := (blk_cell BK750.out 0).trans rfl; have hcz24_1 : w22.cell? ⟨gb750, 1, none⟩ = some (.int .i64 0) := (blk_cell BK750.out 1).trans rfl; have hcz24_2 : w22.cell? ⟨gb750, 2, none⟩ = some (.slice none 0 0) := (blk_cell BK750.out 2).trans rfl; have hfz24_0 := blk_frozen BK750.out 0; have hfz24_1 := blk_frozen BK750.out 1; have hfz24_2 := blk_frozen BK750.out 2; obtain ⟨Ao25, co25, eo25⟩ := Kd.S_slice HO749.out; subst eo25) | ((with_reducible refine gate_callee (f := 42) rfl ?_); refine goesL_ (some 28) rfl rfl Try.func42 (by kernel_rfl) rfl #[.agg #[.int .i64 t745, .int .i64 t746, .slice Ao25 t747.length co25], .int .i64 a1] rfl (by (try simp only [List.map_toArray, List.map_cons, List.map_nil]); first | done | rfl | (simp only [List.length_drop, List.length_take]; rfl)) ?_; (with_reducible refine (impl_SolverGet.calls k t745 t746 _ _ t747 a1 t751 t752 _ ?side1 ?side2 A11.out).mono ?_); (case side1 => refine (Kd.S_reads' (e := 84) (base := w.heap.size) (ok := fun k_ => (True ∧ some k_ ≠ (.slice Ao18 t740.length co18 : Value).ownBlock)) (n := t747.length) (c := co25) ?_).2.2; exact (by (with_reducible repeat (first | apply Kd.S_alloc | apply Kd.S_drewN | apply Kd.S_drew)); exact (Kd.S_mono (Kd.S_far (p := ⟨gb750, 2, none⟩) (Kd.S_far (p := ⟨gb750, 1, none⟩) (Kd.S_far (p := ⟨gb750, 0, none⟩) (Kd.S_types HO749.out BK750.out (by decide)) (fun _ hk => hk.2) (.int .i64 t745)) (fun _ hk => hk.2) (.int .i64 t746)) (fun _ hk => hk.2) (.slice Ao25 t747.length co25)) (fun _ h_ => h_.1)))); (case side2 => exact (Kd.S_reads' HO749.out).2.1); rintro e w26 ⟨rfl, hb⟩; refine ⟨_, rfl, ?_⟩; have n0_ := Aside0.mk (Kd.S_below (by (with_reducible repeat (first | apply Kd.S_alloc | apply Kd.S_drewN | apply Kd.S_drew)); exact (Kd.S_mono (Kd.S_far (p := ⟨gb750, 2, none⟩) (Kd.S_far (p := ⟨gb750, 1, none⟩) (Kd.S_far (p := ⟨gb750, 0, none⟩) (Kd.S_types HO742.out BK750.out (by decide)) (fun _ hk => hk.2) (.int .i64 t745)) (fun _ hk => hk.2) (.int .i64 t746)) (fun _ hk => hk.2) (.slice Ao25 t747.length co25)) (fun _ h_ => h_.1))) hb); have n1_ := Aside0.mk (Kd.S_below (by (with_reducible repeat (first | apply Kd.S_alloc | apply Kd.S_drewN | apply Kd.S_drew)); exact (Kd.S_mono (Kd.S_far (p := ⟨gb750, 2, none⟩) (Kd.S_far (p := ⟨gb750, 1, none⟩) (Kd.S_far (p := ⟨gb750, 0, none⟩) (Kd.S_types HO749.out BK750.out (by decide)) (fun _ hk => hk.2) (.int .i64 t745)) (fun _ hk => hk.2) (.int .i64 t746)) (fun _ hk => hk.2) (.slice Ao25 t747.length co25)) (fun _ h_ => h_.1))) hb); have n2_ := Aside0.mk (blk_below (g := gb736) (o := .cells #[.int .i64 a0_0, .int .i64 a0_1, .slice A0_2 l0_2.length c0_2] 32 (0, 0)) (by (with_reducible repeat (first | refine blk_drewN ?_ _ | refine blk_drew ?_ | refine blk_alloc ?_ _)); refine blk_far ?_ NB736_750.out _; (with_reducible repeat (first | refine blk_drewN ?_ _ | refine blk_drew ?_ | refine blk_alloc ?_ _)); refine blk_far ?_ NB736_750.out _; (with_reducible repeat (first | refine blk_drewN ?_ _ | refine blk_drew ?_ | refine blk_alloc ?_ _)); refine blk_far ?_ NB736_750.out _; (with_reducible repeat (first | refine blk_drewN ?_ _ | refine blk_drew ?_ | refine blk_alloc ?_ _)); exact BK736.out) hb); have n3_ := Aside0.mk (blk_below (g := gb750) (o := .cells #[.int .i64 t745, .int .i64 t746, .slice Ao25 t747.length co25] 37 (0, 0)) (by (with_reducible repeat (first | refine blk_drewN ?_ _ | refine blk_drew ?_ | refine blk_alloc ?_ _)); refine blk_put (cs := #[.int .i64 t745, .int .i64 t746, .slice none 0 0]) ?_ 2 _ rfl; (with_reducible repeat (first | refine blk_drewN ?_ _ | refine blk_drew ?_ | refine blk_alloc ?_ _)); refine blk_put (cs := #[.int .i64 t745, .int .i64 0, .slice none 0 0]) ?_ 1 _ rfl; (with_reducible repeat (first | refine blk_drewN ?_ _ | refine blk_drew ?_ | refine blk_alloc ?_ _)); refine blk_put (cs := #[.int .i64 0, .int .i64 0, .slice none 0 0]) ?_ 0 _ rfl; (with_reducible repeat (first | refine blk_drewN ?_ _ | refine blk_drew ?_ | refine blk_alloc ?_ _)); exact BK750.out) hb); have n4_ := Aside0.mk (below_step (by repeat (first | (with_reducible first | exact HB.out | apply below_alloc | apply pw_below_drewN | apply below_drew1 | refine below_set ?_ GE736.out | refine below_set ?_ GE750.out) | exact HB.out)) hb); clear HO742; clear HO749; clear BK736; clear BK750; clear HB; have HO742 := n0_; have HO749 := n1_; have BK736 := n2_; have BK750 := n3_; have HB := n4_; clear n0_ n1_ n2_ n3_ n4_; (try clear hb); (try clear hb2); (try clear hk); (try clear hi)))
  (try simp only [Act.put, eA_, e0_, eS_])
  go_cut [38] (fun v38 wc => ∃ (kq : Nat) (x38_11 : Bool), v38 = .bool x38_11 ∧ Aside0 (laws_FnExactSolverGet.j0 kq x38_11 a0_0 a0_1 l0_2 t745 t746 t747 = some true) ∧ Aside0 (kq ≤ k) ∧ Aside0 (Kd.S k84 84 wc w.heap.size (fun _ => True) (.slice Ao25 t747.length co25) t747) ∧ Aside0 (wc.heap[gb736]? = some (.cells #[.int .i64 a0_0, .int .i64 a0_1, (.slice A0_2 l0_2.length c0_2)] 32 (0, 0))) ∧ Aside0 (wc.heap[gb750]? = some (.cells #[.int .i64 t745, .int .i64 t746, (.slice Ao25 t747.length co25)] 37 (0, 0))) ∧ Aside0 (Below w.heap.size w wc))
  case first =>
   have H := HC12.out
   clear HC12
   by_cases c27 : t751.toList = t743.toList
   ·rw [if_pos c27] at H
    have c27b0 : (t751.toList == t743.toList) = true := beq_iff_eq.mpr c27
    have c27b1 : (t751.toList != t743.toList) = false := bne_eq_false_iff_eq.mpr c27
    clear c27
    (first | rw [c27b0] | (simp only [i64_w, i32_w]; rw [c27b0]) | skip)
    have H' := Aside0.mk H
    clear H
    go_wp2
    all_goals
     go_meet
     case rel => exact ⟨_, ((t752 != t744)), (by first | rfl | (simp; done) | (simp [*]; done) | (simp [wrap64]; done)), H', ⟨by first | omega | exact Nat.le_refl _⟩, ⟨by (with_reducible repeat (first | apply Kd.S_alloc | apply Kd.S_drewN | apply Kd.S_drew)); exact Kd.S_mono HO749.out (fun _ hk => trivial)⟩, ⟨by (with_reducible repeat (first | refine blk_drewN ?_ _ | refine blk_drew ?_ | refine blk_alloc ?_ _)); exact BK736.out⟩, ⟨by (with_reducible repeat (first | refine blk_drewN ?_ _ | refine blk_drew ?_ | refine blk_alloc ?_ _)); exact BK750.out⟩, ⟨by repeat (first | (with_reducible first | exact HB.out | apply below_alloc | apply pw_below_drewN | apply below_drew1 | refine below_set ?_ GE736.out | refine below_set ?_ GE750.out) | exact HB.out)⟩⟩
   ·rw [if_neg c27] at H
    have c27b0 : (t751.toList == t743.toList) = false := beq_eq_false_iff_ne.mpr c27
    have c27b1 : (t751.toList != t743.toList) = true := bne_iff_ne.mpr c27
    (first | rw [c27b0] | (simp only [i64_w, i32_w]; rw [c27b0]) | skip)
    have H' := Aside0.mk H
    clear H
    go_wp2
    all_goals
     go_meet
     case rel => exact ⟨_, (true), (by first | rfl | (simp; done) | (simp [*]; done) | (simp [wrap64]; done)), H', ⟨by first | omega | exact Nat.le_refl _⟩, ⟨by (with_reducible repeat (first | apply Kd.S_alloc | apply Kd.S_drewN | apply Kd.S_drew)); exact Kd.S_mono HO749.out (fun _ hk => trivial)⟩, ⟨by (with_reducible repeat (first | refine blk_drewN ?_ _ | refine blk_drew ?_ | refine blk_alloc ?_ _)); exact BK736.out⟩, ⟨by (with_reducible repeat (first | refine blk_drewN ?_ _ | refine blk_drew ?_ | refine blk_alloc ?_ _)); exact BK750.out⟩, ⟨by repeat (first | (with_reducible first | exact HB.out | apply below_alloc | apply pw_below_drewN | apply below_drew1 | refine below_set ?_ GE736.out | refine below_set ?_ GE750.out) | exact HB.out)⟩⟩
  case rest =>
   clear HC12
   try clear c2
   try clear p2
   try clear c4
   try clear c4b0
   try clear c8
   try clear c22
   try clear c23
   try clear c24
   try clear c27
   try clear c27b0
   try clear c27b1
   try clear hcz14_0
   try clear hcz14_1
   try clear hcz14_2
   try clear hcz16_0
   try clear hcz16_1
   try clear hcz16_2
   try clear hcz20_0
   try clear hcz20_1
   try clear hcz20_2
   try clear hcz24_0
   try clear hcz24_1
   try clear hcz24_2
   try clear hcz6_0
   try clear hcz6_1
   try clear hcz6_2
   try clear hfz14_0
   try clear hfz14_1
   try clear hfz14_2
   try clear hfz16_0
   try clear hfz16_1
   try clear hfz16_2
   try clear hfz20_0
   try clear hfz20_1
   try clear hfz20_2
   try clear hfz24_0
   try clear hfz24_1
   try clear hfz24_2
   try clear hfz6_0
   try clear hfz6_1
   try clear hfz6_2
   obtain ⟨kq, x38_11, rfl, HA, HJ11, HO_751002, BK736, BK750, HB⟩ := hcut
   cases kq with
   | zero => exact absurd HA.out (by simp [laws_FnExactSolverGet.j0])
   | succ kj11 =>
    have H := HA.out
    clear HA
    simp only [laws_FnExactSolverGet.j0] at H
    by_cases c28 : x38_11 = true
    ·subst c28
     have H1 : (some false) = some true := by rw [if_pos rfl] at H; exact H
     clear H
     have H := H1
     clear H1
     exact absurd H (by simp)
    ·replace c28 := Bool.eq_false_iff.mpr c28
     subst c28
     have H1 : ((laws_toSolver.f kj11 a0_0 a0_1 l0_2).bind fun bt753 => ((laws_eqSolver.f kj11 t745 t746 t747 bt753.1 bt753.2.1 bt753.2.2).bind fun t758 => (if t758 = true then (some true) else (some false)))) = some true := by rw [if_neg (show ¬ (false = true) by decide)] at H; exact H
     clear H
     have H := H1
     clear H1
     replace H := bI_ H
     obtain ⟨⟨t753, t754, t755⟩, A290, H⟩ := H
     replace H : ((laws_eqSolver.f kj11 t745 t746 t747 t753 t754 t755).bind fun t758 => (if t758 = true then (some true) else (some false))) = some true := H
     have A29 := Aside0.mk A290
     clear A290
     replace H := bI_ H
     obtain ⟨t758, A300, H⟩ := H
     replace H : (if t758 = true then (some true) else (some false)) = some true := H
     have A30 := Aside0.mk A300
     clear A300
     by_cases c31 : t758 = true
     ·subst c31
      have H1 : (some true) = some true := rfl
      clear H
      have H := H1
      clear H1
      clear H
      try go_wp2
      have n0_ := Aside0.mk (Kd.S_drew HO_751002.out)
      have n1_ := Aside0.mk (blk_drew BK736.out)
      have n2_ := Aside0.mk (blk_drew BK750.out)
      have n3_ := Aside0.mk (below_drew1 HB.out)
      clear HO_751002
      clear BK736
      clear BK750
      clear HB
      have HO_751002 := n0_
      have BK736 := n1_
      have BK750 := n2_
      have HB := n3_
      clear n0_ n1_ n2_ n3_
      refine start_ (n := 5) (S := fun w' => w'.cell? ⟨gb750, 0, none⟩ = some (.int .i64 t745) ∧ w'.cell? ⟨gb750, 1, none⟩ = some (.int .i64 t746) ∧ w'.cell? ⟨gb750, 2, none⟩ = some (.slice Ao25 t747.length co25) ∧ w'.cell? ⟨gb736, 0, none⟩ = some (.int .i64 a0_0) ∧ w'.cell? ⟨gb736, 1, none⟩ = some (.int .i64 a0_1) ∧ w'.cell? ⟨gb736, 2, none⟩ = some (.slice A0_2 l0_2.length c0_2)) (ds := []) (.replicate 5 false) (by kernel_rfl) rfl rfl ⟨cz_ BK750.out 0 rfl, cz_ BK750.out 1 rfl, cz_ BK750.out 2 rfl, cz_ BK736.out 0 rfl, cz_ BK736.out 1 rfl, cz_ BK736.out 2 rfl⟩ (fun hHeld => ?_)
      generalize wc.drew = w32 at HO_751002 BK736 BK750 HB hHeld ⊢
      refine tk_ 0 (some 39) (bv 5 1) rfl rfl (by kernel_rfl) (fun _ _ _ h => h) (by rfl) hHeld (fun w' ⟨s0, s1, s2, s3, s4, s5⟩ => by go_simp; with_reducible rfl) (by simp only [Act.put, eA_, e0_, eS_, i64_w, i32_w]; rfl) ?_
      refine tk_ 1 (some 40) (bv 5 3) rfl rfl (by kernel_rfl) (fun _ _ _ h => h) (by rfl) hHeld (fun w' ⟨s0, s1, s2, s3, s4, s5⟩ => by go_simp; with_reducible rfl) (by simp only [Act.put, eA_, e0_, eS_, i64_w, i32_w]; rfl) ?_
      refine one_ (i := 2) (N := some 41) (bv 5 7) rfl rfl (by kernel_rfl) (by decide) (fun K hK => ?_)
      refine goes_ Try.func24 (by kernel_rfl) rfl #[.agg #[.int .i64 a0_0, .int .i64 a0_1, .slice A0_2 l0_2.length c0_2]] (by rfl) rfl rfl (by (try simp only [List.map_toArray, List.map_cons, List.map_nil]); first | done | rfl | (simp only [List.length_drop, List.length_take]; rfl)) ?_
      with_reducible refine (laws_toSolver.calls kj11 a0_0 a0_1 _ _ l0_2 t753 t754 t755 _ ?side1 ?side2 A29.out).mono ?_
      (case side1 => exact gC (Kd.C_below HR0_2.out HB.out))
      (case side2 => exact HC0_2.out)
      rintro e w33 ⟨v756, rfl, ho0, hb⟩
      refine ⟨_, rfl, ?_⟩
      have n0_ := Aside0.mk (Kd.S_elder' (by (with_reducible repeat (first | apply Kd.S_alloc | apply Kd.S_drewN | apply Kd.S_drew)); exact HO_751002.out) (Kd.S_base ho0) hb)
      have n1_ := Aside0.mk (Kd.S_lower (Kd.S_new' ho0 (Kd.S_lt (by (with_reducible repeat (first | apply Kd.S_alloc | apply Kd.S_drewN | apply Kd.S_drew)); exact HO_751002.out))) (below_size (gB HB.out)))
      have n2_ := Aside0.mk (blk_below (gK BK736.out) hb)
      have n3_ := Aside0.mk (blk_below (gK BK750.out) hb)
      have n4_ := Aside0.mk (below_step (gB HB.out) hb)
      clear HO_751002
      clear BK736
      clear BK750
      clear HB
      have HO_751002 := n0_
      have HO757 := n1_
      have BK736 := n2_
      have BK750 := n3_
      have HB := n4_
      clear n0_ n1_ n2_ n3_ n4_
      (try clear hb)
      (try clear hb2)
      (try clear hk)
      (try clear hi)
      (try clear ho0)
      obtain ⟨Ao34, co34, eo34⟩ := Kd.S_slice HO757.out
      (first | subst eo34 | (injection eo34 with f1_ f2_ f3_; have f4_ := f1_.symm; have f5_ := f3_.symm; clear f1_ f2_ f3_; subst f4_; subst f5_))
      refine hK.out _ _ ⟨cz_ BK750.out 0 rfl, cz_ BK750.out 1 rfl, cz_ BK750.out 2 rfl, cz_ BK736.out 0 rfl, cz_ BK736.out 1 rfl, cz_ BK736.out 2 rfl⟩ (fun hHeld => ?_)
      clear hK K
      refine norm_ (a' := ?_) ?_ ?_
      rotate_left
      ·show Act.put _ (some 41) _ = _
       simp only [Act.put, eA_, e0_, eS_, i64_w, i32_w]
       rfl
      refine one_ (i := 3) (N := some 42) (bv 5 15) rfl rfl (by kernel_rfl) (by decide) (fun K hK => ?_)
      refine goes_ Try.func26 (by kernel_rfl) rfl #[.agg #[.int .i64 t745, .int .i64 t746, .slice Ao25 t747.length co25], .agg #[.int .i64 t753, .int .i64 t754, .slice Ao34 t755.length co34]] (by rfl) rfl rfl (by (try simp only [List.map_toArray, List.map_cons, List.map_nil]); first | done | rfl | (simp only [List.length_drop, List.length_take]; rfl)) ?_
      with_reducible refine (laws_eqSolver.calls kj11 t745 t746 _ _ t747 t753 t754 _ _ t755 true _ ?side1 ?side2 ?side3 ?side4 A30.out).mono ?_
      (case side1 => repeat (first | exact (Kd.S_reads' HO_751002.out).2.2 | (with_reducible refine Kd.C_alloc ?_ _) | (with_reducible refine Kd.C_drewN ?_ _) | (with_reducible refine Kd.C_drew ?_)))
      (case side2 => exact (Kd.S_reads' HO_751002.out).2.1)
      (case side3 => repeat (first | exact (Kd.S_reads' HO757.out).2.2 | (with_reducible refine Kd.C_alloc ?_ _) | (with_reducible refine Kd.C_drewN ?_ _) | (with_reducible refine Kd.C_drew ?_)))
      (case side4 => exact (Kd.S_reads' HO757.out).2.1)
      rintro e w35 ⟨rfl, hb⟩
      refine ⟨_, rfl, ?_⟩
      have n0_ := Aside0.mk (Kd.S_below (by (with_reducible repeat (first | apply Kd.S_alloc | apply Kd.S_drewN | apply Kd.S_drew)); exact HO_751002.out) hb)
      have n1_ := Aside0.mk (Kd.S_below (by (with_reducible repeat (first | apply Kd.S_alloc | apply Kd.S_drewN | apply Kd.S_drew)); exact HO757.out) hb)
      have n2_ := Aside0.mk (blk_below (gK BK736.out) hb)
      have n3_ := Aside0.mk (blk_below (gK BK750.out) hb)
      have n4_ := Aside0.mk (below_step (gB HB.out) hb)
      clear HO_751002
      clear HO757
      clear BK736
      clear BK750
      clear HB
      have HO_751002 := n0_
      have HO757 := n1_
      have BK736 := n2_
      have BK750 := n3_
      have HB := n4_
      clear n0_ n1_ n2_ n3_ n4_
      (try clear hb)
      (try clear hb2)
      (try clear hk)
      (try clear hi)
      refine hK.out _ _ ⟨cz_ BK750.out 0 rfl, cz_ BK750.out 1 rfl, cz_ BK750.out 2 rfl, cz_ BK736.out 0 rfl, cz_ BK736.out 1 rfl, cz_ BK736.out 2 rfl⟩ (fun hHeld => ?_)
      clear hK K
      refine norm_ (a' := ?_) ?_ ?_
      rotate_left
      ·show Act.put _ (some 42) _ = _
       simp only [Act.put, eA_, e0_, eS_, i64_w, i32_w]
       rfl
      refine pu_ 4 (some 43) (bv 5 31) rfl rfl (by kernel_rfl) (fun _ _ _ h => h) (by rfl) (fun w' => by go_simp; with_reducible rfl) (by simp only [Act.put, eA_, e0_, eS_, i64_w, i32_w]; rfl) ?_
      refine done_ (by kernel_rfl) ?_
      try go_wp2
      go_ret
      exact ⟨by first | rfl | (simp [errW_none, errW_some] <;> rfl) | (simp [*, errW_none, errW_some] <;> rfl), by repeat (first | (with_reducible first | exact HB.out | apply below_alloc | apply pw_below_drewN | apply below_drew1 | refine below_set ?_ GE736.out | refine below_set ?_ GE750.out) | exact HB.out)⟩
     ·replace c31 := Bool.eq_false_iff.mpr c31
      subst c31
      have H1 : (some false) = some true := by rw [if_neg (show ¬ (false = true) by decide)] at H; exact H
      clear H
      have H := H1
      clear H1
      exact absurd H (by simp)

end Go.Proofs.Ytaeeickboakmgaa.X
