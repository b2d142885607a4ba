/- Printed for this claim by the session's program (the kit's printer, several laws in one place): the functions that the law reaches, each as a plain Lean function, and the proof that the Go code comes to its answers. Conditions: none beside those that each theorem states. -/
import Derived.Test.YtaeeickboakmgaaXx0
import Derived.Test.YtaeeickboakmgaaXx14
import Derived.Test.YtaeeickboakmgaaXx18
import Derived.Test.YtaeeickboakmgaaXx19
import Derived.Test.YtaeeickboakmgaaXx20
import Derived.Test.YtaeeickboakmgaaWAll
namespace Go.Proofs.Ytaeeickboakmgaa.X
open Go.RowKit Go.Proofs.YtaeeickboakmgaaW.PrintWords Go.Proofs.YtaeeickboakmgaaW.PrintLast Go.Proofs.YtaeeickboakmgaaW.PrintStep Go.Proofs.YtaeeickboakmgaaW.PrintMore
attribute [local go_sem] max2_int min2_int max_two min_two max_three min_three max_four min_four   -- for this text's walks alone
set_option linter.unusedVariables false
set_option linter.unusedSimpArgs false

/-! ### laws_FnExactPlanCut: function 5 -/
def laws_FnExactPlanCut.j0 : Nat → ByteArray → List ByteArray → List ByteArray → Bool → Int → Int → List Int → List Int → Option (Bool)
 | 0, _, _, _, _, _, _, _, _ => none
 | k + 1, x1, x6, x8, x49, x434000, x434001, x434002, x434003 => if x49 = true then (some false) else ((laws_markStringS.f k x8 1).bind fun bt472 => ((laws_heldStringS.f k bt472.2 1).bind fun t474 => (if t474 < 0 then (some false) else (if t474 = bt472.1 then ((laws_toPlan.f k x434000 x434001 x434002 x434003).bind fun bt475 => ((impl_PlanCut.f k bt475.1 bt475.2.1 bt475.2.2.1 bt475.2.2.2 x1).bind fun t483 => ((laws_eqStringS.f k t483 x6).bind fun t486 => (if t486 = true then ((laws_heldStringS.f k bt472.2 1).bind fun t487 => (if t487 < 0 then (some false) else (if t487 = bt472.1 then (some true) else (some false)))) else (some false))))) else (some false)))))
def laws_FnExactPlanCut.f (k : Nat) (a0_0 : Int) (a0_1 : Int) (l0_2 : List Int) (l0_3 : List Int) (a1 : ByteArray) : Option (Bool) := if (a1.size : Int) > 1048576 then (some true) else ((laws_szPlan.f a0_0 a0_1 l0_2 l0_3 1048576).bind fun t434 => (if t434 < 0 then (some true) else ((laws_toPlan.f k a0_0 a0_1 l0_2 l0_3).bind fun bt435 => ((spec_PlanCut.f k bt435.1 bt435.2.1 bt435.2.2.1 bt435.2.2.2 a1).bind fun t443 => ((laws_toPlan.f k a0_0 a0_1 l0_2 l0_3).bind fun bt446 => ((impl_PlanCut.f k bt446.1 bt446.2.1 bt446.2.2.1 bt446.2.2.2 a1).bind fun t455 => ((laws_eqStringS.f k t455 t443).bind fun t458 => (if t458 = true then ((laws_toPlan.f k a0_0 a0_1 l0_2 l0_3).bind fun bt459 => ((laws_eqPlan.f k bt446.1 bt446.2.1 bt446.2.2.1 bt446.2.2.2 bt459.1 bt459.2.1 bt459.2.2.1 bt459.2.2.2).bind fun t467 => (if t467 = true then ((laws_markPlan.f k bt446.1 bt446.2.1 bt446.2.2.1 bt446.2.2.2 1).bind fun bt468 => (if bt468.1 < 0 then (laws_FnExactPlanCut.j0 k a1 t443 t455 true a0_0 a0_1 l0_2 l0_3) else ((laws_eqStringS.f k t455 t443).bind fun t471 => (laws_FnExactPlanCut.j0 k a1 t443 t455 (!t471) a0_0 a0_1 l0_2 l0_3)))) else (some false)))) else (some false)))))))))
theorem laws_FnExactPlanCut.mono_l : ∀ k, (∀ y0 y1 y2 y3 y4 y5 y6 y7, LeO (laws_FnExactPlanCut.j0 k y0 y1 y2 y3 y4 y5 y6 y7) (laws_FnExactPlanCut.j0 (k + 1) y0 y1 y2 y3 y4 y5 y6 y7))
 | 0 => fun _ _ _ _ _ _ _ _ r h => by simp [laws_FnExactPlanCut.j0] at h
 | k + 1 => by
  have ih0 := laws_FnExactPlanCut.mono_l k
  ·intro y0 y1 y2 y3 y4 y5 y6 y7
   unfold laws_FnExactPlanCut.j0
   repeat' first
   | (with_reducible exact ih0 _ _ _ _ _ _ _ _)
   | (with_reducible exact impl_PlanCut.mono _ _ _ _ _ _)
   | (with_reducible exact laws_eqPlan.mono _ _ _ _ _ _ _ _ _)
   | (with_reducible exact laws_eqStringS.mono _ _ _)
   | (with_reducible exact laws_heldStringS.mono _ _ _)
   | (with_reducible exact laws_markPlan.mono _ _ _ _ _ _)
   | (with_reducible exact laws_markStringS.mono _ _ _)
   | (with_reducible exact laws_toPlan.mono _ _ _ _ _)
   | (with_reducible exact spec_PlanCut.mono _ _ _ _ _ _)
   | (with_reducible exact LeO.refl _)
   | (with_reducible exact LeO.none _)
   | (with_reducible refine LeO.ite ?_ ?_)
   | (with_reducible refine LeO.bind ?_ (fun _ => ?_))
   | exact ih0 _ _ _ _ _ _ _ _
   | exact impl_PlanCut.mono _ _ _ _ _ _
   | exact laws_eqPlan.mono _ _ _ _ _ _ _ _ _
   | exact laws_eqStringS.mono _ _ _
   | exact laws_heldStringS.mono _ _ _
   | exact laws_markPlan.mono _ _ _ _ _ _
   | exact laws_markStringS.mono _ _ _
   | exact laws_toPlan.mono _ _ _ _ _
   | exact spec_PlanCut.mono _ _ _ _ _ _
   | exact LeO.none _
   | refine LeO.ite ?_ ?_
   | refine LeO.bind ?_ (fun _ => ?_)
theorem laws_FnExactPlanCut.mono : ∀ a0 a1 a2 a3 a4 k, LeO (laws_FnExactPlanCut.f k a0 a1 a2 a3 a4) (laws_FnExactPlanCut.f (k + 1) a0 a1 a2 a3 a4) := by
 intro a0 a1 a2 a3 a4 k
 have ih0 := laws_FnExactPlanCut.mono_l k
 unfold laws_FnExactPlanCut.f
 repeat' first
  | (with_reducible exact ih0 _ _ _ _ _ _ _ _)
  | (with_reducible exact impl_PlanCut.mono _ _ _ _ _ _)
  | (with_reducible exact laws_eqPlan.mono _ _ _ _ _ _ _ _ _)
  | (with_reducible exact laws_eqStringS.mono _ _ _)
  | (with_reducible exact laws_heldStringS.mono _ _ _)
  | (with_reducible exact laws_markPlan.mono _ _ _ _ _ _)
  | (with_reducible exact laws_markStringS.mono _ _ _)
  | (with_reducible exact laws_toPlan.mono _ _ _ _ _)
  | (with_reducible exact spec_PlanCut.mono _ _ _ _ _ _)
  | (with_reducible exact LeO.refl _)
  | (with_reducible exact LeO.none _)
  | (with_reducible refine LeO.ite ?_ ?_)
  | (with_reducible refine LeO.bind ?_ (fun _ => ?_))
  | exact ih0 _ _ _ _ _ _ _ _
  | exact impl_PlanCut.mono _ _ _ _ _ _
  | exact laws_eqPlan.mono _ _ _ _ _ _ _ _ _
  | exact laws_eqStringS.mono _ _ _
  | exact laws_heldStringS.mono _ _ _
  | exact laws_markPlan.mono _ _ _ _ _ _
  | exact laws_markStringS.mono _ _ _
  | exact laws_toPlan.mono _ _ _ _ _
  | exact spec_PlanCut.mono _ _ _ _ _ _
  | exact LeO.none _
  | refine LeO.ite ?_ ?_
  | refine LeO.bind ?_ (fun _ => ?_)
set_option maxHeartbeats 8000000 in
set_option maxRecDepth 100000 in
theorem laws_FnExactPlanCut.calls (k : Nat) (a0_0 : Int) (a0_1 : Int) (A0_2 : Option Addr) (c0_2 : Nat) (l0_2 : List Int) (A0_3 : Option Addr) (c0_3 : Nat) (l0_3 : List Int) (a1 : ByteArray) (w : World) (hr0_2 : Kd.C (Kd.int .i64) w A0_2 l0_2.length l0_2) (hc0_2 : l0_2.length ≤ c0_2) (hr0_3 : Kd.C (Kd.int .i64) w A0_3 l0_3.length l0_3) (hc0_3 : l0_3.length ≤ c0_3) (h : laws_FnExactPlanCut.f k a0_0 a0_1 l0_2 l0_3 a1 = some true) :
 Calls Try.prog 5 #[.agg #[.int .i64 a0_0, .int .i64 a0_1, .slice A0_2 l0_2.length c0_2, .slice A0_3 l0_3.length c0_3], .string a1] w fun e w' => e = .returned (.bool true) ∧ Below w.heap.size w w' := by
 have hu42 := Try.underlying42
 have hu46 := Try.underlying46
 have HR0_2 := Aside0.mk hr0_2
 have HC0_2 := Aside0.mk hc0_2
 clear hr0_2 hc0_2
 have HR0_3 := Aside0.mk hr0_3
 have HC0_3 := Aside0.mk hc0_3
 clear hr0_3 hc0_3
 have HB := Aside0.mk (Below.refl w.heap.size w)
 have H : (if (a1.size : Int) > 1048576 then (some true) else ((laws_szPlan.f a0_0 a0_1 l0_2 l0_3 1048576).bind fun t434 => (if t434 < 0 then (some true) else ((laws_toPlan.f k a0_0 a0_1 l0_2 l0_3).bind fun bt435 => ((spec_PlanCut.f k bt435.1 bt435.2.1 bt435.2.2.1 bt435.2.2.2 a1).bind fun t443 => ((laws_toPlan.f k a0_0 a0_1 l0_2 l0_3).bind fun bt446 => ((impl_PlanCut.f k bt446.1 bt446.2.1 bt446.2.2.1 bt446.2.2.2 a1).bind fun t455 => ((laws_eqStringS.f k t455 t443).bind fun t458 => (if t458 = true then ((laws_toPlan.f k a0_0 a0_1 l0_2 l0_3).bind fun bt459 => ((laws_eqPlan.f k bt446.1 bt446.2.1 bt446.2.2.1 bt446.2.2.2 bt459.1 bt459.2.1 bt459.2.2.1 bt459.2.2.2).bind fun t467 => (if t467 = true then ((laws_markPlan.f k bt446.1 bt446.2.1 bt446.2.2.1 bt446.2.2.2 1).bind fun bt468 => (if bt468.1 < 0 then (laws_FnExactPlanCut.j0 k a1 t443 t455 true a0_0 a0_1 l0_2 l0_3) else ((laws_eqStringS.f k t455 t443).bind fun t471 => (laws_FnExactPlanCut.j0 k a1 t443 t455 (!t471) a0_0 a0_1 l0_2 l0_3)))) else (some false)))) else (some false)))))))))) = some true := h
 clear h
 by_cases c3 : (a1.size : Int) > 1048576
 ·rw [if_pos c3] at H
  have c3b0 : decide (1048576 < (a1.size : Int)) = true := decide_eq_true c3
  have c3b1 : decide (1048576 < a1.size) = true := decide_eq_true (by omega)
  clear c3
  clear H
  go_enter Try.func5, Try.ntmps5
  go_wp2_with (first | ((with_reducible refine gate_dst (N := 2) rfl ?_); refine box_event ?hg (N := 2) ?hd (cs := #[.int .i64 a0_0, .int .i64 a0_1, .slice A0_2 l0_2.length c0_2, .slice A0_3 l0_3.length c0_3]) (t := 42) ?hr ?_; (case hd => rfl); (case hg => rfl); (case hr => first | (go_simp; done) | (go_simp; rfl)); intro gb433 hg w4 hbox hb; have n0_ := Aside0.mk (below_step (by repeat (first | (with_reducible first | exact HB.out | apply below_alloc | apply pw_below_drewN | apply below_drew1) | exact HB.out)) hb); have n1_ := Aside0.mk (hbox); have n2_ := Aside0.mk ((by rw [hg]; exact (below_size (by repeat (first | (with_reducible first | exact HB.out | apply below_alloc | apply pw_below_drewN | apply below_drew1) | exact HB.out))) : w.heap.size ≤ gb433)); have n3_ := Aside0.mk ((by rw [hg]; exact (below_size (by repeat (first | (with_reducible first | exact HB.out | apply below_alloc | apply pw_below_drewN | apply below_drew1) | exact HB.out))) : w.heap.size ≤ gb433)); clear HB; have HB := n0_; have BK433 := n1_; have GW433 := n2_; have GE433 := n3_; clear n0_ n1_ n2_ n3_; clear hb hbox hg))
  go_ret
  exact ⟨by first | rfl | (simp [errW_none, errW_some] <;> rfl) | (simp [*, errW_none, errW_some] <;> rfl), by repeat (first | (with_reducible first | exact HB.out | apply below_alloc | apply pw_below_drewN | apply below_drew1 | refine below_set ?_ GE433.out) | exact HB.out)⟩
 ·rw [if_neg c3] at H
  have c3b0 : decide (1048576 < (a1.size : Int)) = false := decide_eq_false c3
  have c3b1 : decide (1048576 < a1.size) = false := decide_eq_false (by omega)
  clear c3
  replace H := Option.bind_eq_some_iff.mp H
  obtain ⟨t434, A50, H⟩ := H
  replace H : (if t434 < 0 then (some true) else ((laws_toPlan.f k a0_0 a0_1 l0_2 l0_3).bind fun bt435 => ((spec_PlanCut.f k bt435.1 bt435.2.1 bt435.2.2.1 bt435.2.2.2 a1).bind fun t443 => ((laws_toPlan.f k a0_0 a0_1 l0_2 l0_3).bind fun bt446 => ((impl_PlanCut.f k bt446.1 bt446.2.1 bt446.2.2.1 bt446.2.2.2 a1).bind fun t455 => ((laws_eqStringS.f k t455 t443).bind fun t458 => (if t458 = true then ((laws_toPlan.f k a0_0 a0_1 l0_2 l0_3).bind fun bt459 => ((laws_eqPlan.f k bt446.1 bt446.2.1 bt446.2.2.1 bt446.2.2.2 bt459.1 bt459.2.1 bt459.2.2.1 bt459.2.2.2).bind fun t467 => (if t467 = true then ((laws_markPlan.f k bt446.1 bt446.2.1 bt446.2.2.1 bt446.2.2.2 1).bind fun bt468 => (if bt468.1 < 0 then (laws_FnExactPlanCut.j0 k a1 t443 t455 true a0_0 a0_1 l0_2 l0_3) else ((laws_eqStringS.f k t455 t443).bind fun t471 => (laws_FnExactPlanCut.j0 k a1 t443 t455 (!t471) a0_0 a0_1 l0_2 l0_3)))) else (some false)))) else (some false)))))))) = some true := H
  have A5 := Aside0.mk A50
  clear A50
  by_cases c6 : t434 < 0
  ·rw [if_pos c6] at H
   have c6b0 : decide (t434 < 0) = true := decide_eq_true c6
   clear c6
   clear H
   go_enter Try.func5, Try.ntmps5
   go_wp2_with (first | ((with_reducible refine gate_dst (N := 2) rfl ?_); refine box_event ?hg (N := 2) ?hd (cs := #[.int .i64 a0_0, .int .i64 a0_1, .slice A0_2 l0_2.length c0_2, .slice A0_3 l0_3.length c0_3]) (t := 42) ?hr ?_; (case hd => rfl); (case hg => rfl); (case hr => first | (go_simp; done) | (go_simp; rfl)); intro gb433 hg w7 hbox hb; have n0_ := Aside0.mk (below_step (by repeat (first | (with_reducible first | exact HB.out | apply below_alloc | apply pw_below_drewN | apply below_drew1) | exact HB.out)) hb); have n1_ := Aside0.mk (hbox); have n2_ := Aside0.mk ((by rw [hg]; exact (below_size (by repeat (first | (with_reducible first | exact HB.out | apply below_alloc | apply pw_below_drewN | apply below_drew1) | exact HB.out))) : w.heap.size ≤ gb433)); have n3_ := Aside0.mk ((by rw [hg]; exact (below_size (by repeat (first | (with_reducible first | exact HB.out | apply below_alloc | apply pw_below_drewN | apply below_drew1) | exact HB.out))) : w.heap.size ≤ gb433)); clear HB; have HB := n0_; have BK433 := n1_; have GW433 := n2_; have GE433 := n3_; clear n0_ n1_ n2_ n3_; clear hb hbox hg; have hcz8_0 : w7.cell? ⟨gb433, 0, none⟩ = some (.int .i64 a0_0) := (blk_cell BK433.out 0).trans rfl; have hcz8_1 : w7.cell? ⟨gb433, 1, none⟩ = some (.int .i64 a0_1) := (blk_cell BK433.out 1).trans rfl; have hcz8_2 : w7.cell? ⟨gb433, 2, none⟩ = some (.slice A0_2 l0_2.length c0_2) := (blk_cell BK433.out 2).trans rfl; have hcz8_3 : w7.cell? ⟨gb433, 3, none⟩ = some (.slice A0_3 l0_3.length c0_3) := (blk_cell BK433.out 3).trans rfl; have hfz8_0 := blk_frozen BK433.out 0; have hfz8_1 := blk_frozen BK433.out 1; have hfz8_2 := blk_frozen BK433.out 2; have hfz8_3 := blk_frozen BK433.out 3) | ((with_reducible refine gate_callee (f := 27) rfl ?_); refine goesL_ (some 18) rfl rfl Try.func27 (by kernel_rfl) rfl #[.agg #[.int .i64 a0_0, .int .i64 a0_1, .slice A0_2 l0_2.length c0_2, .slice A0_3 l0_3.length c0_3], .int .i64 1048576] rfl (by (try simp only [List.map_toArray, List.map_cons, List.map_nil]); first | done | rfl | (simp only [List.length_drop, List.length_take]; rfl)) ?_; (with_reducible refine (laws_szPlan.calls a0_0 a0_1 _ _ l0_2 _ _ l0_3 1048576 t434 _ ?side1 ?side2 ?side3 ?side4 A5.out).mono ?_); (case side1 => repeat (first | exact (Kd.C_below HR0_2.out HB.out) | (with_reducible refine Kd.C_alloc ?_ _) | (with_reducible refine Kd.C_drewN ?_ _) | (with_reducible refine Kd.C_drew ?_))); (case side2 => exact HC0_2.out); (case side3 => repeat (first | exact (Kd.C_below HR0_3.out HB.out) | (with_reducible refine Kd.C_alloc ?_ _) | (with_reducible refine Kd.C_drewN ?_ _) | (with_reducible refine Kd.C_drew ?_))); (case side4 => exact HC0_3.out); rintro e w9 ⟨rfl, hb⟩; refine ⟨_, rfl, ?_⟩; have n0_ := Aside0.mk (blk_below (g := gb433) (o := .cells #[.int .i64 a0_0, .int .i64 a0_1, .slice A0_2 l0_2.length c0_2, .slice A0_3 l0_3.length c0_3] 42 (0, 0)) (by (with_reducible repeat (first | refine blk_drewN ?_ _ | refine blk_drew ?_ | refine blk_alloc ?_ _)); exact BK433.out) hb); have n1_ := Aside0.mk (below_step (by repeat (first | (with_reducible first | exact HB.out | apply below_alloc | apply pw_below_drewN | apply below_drew1 | refine below_set ?_ GE433.out) | exact HB.out)) hb); clear BK433; clear HB; have BK433 := n0_; have HB := n1_; clear n0_ n1_; (try clear hb); (try clear hb2); (try clear hk); (try clear hi)))
   go_ret
   exact ⟨by first | rfl | (simp [errW_none, errW_some] <;> rfl) | (simp [*, errW_none, errW_some] <;> rfl), by repeat (first | (with_reducible first | exact HB.out | apply below_alloc | apply pw_below_drewN | apply below_drew1 | refine below_set ?_ GE433.out) | exact HB.out)⟩
  ·rw [if_neg c6] at H
   have c6b0 : decide (t434 < 0) = false := decide_eq_false c6
   clear c6
   replace H := Option.bind_eq_some_iff.mp H
   obtain ⟨⟨t435, t436, t437, t440⟩, A100, H⟩ := H
   replace H : ((spec_PlanCut.f k t435 t436 t437 t440 a1).bind fun t443 => ((laws_toPlan.f k a0_0 a0_1 l0_2 l0_3).bind fun bt446 => ((impl_PlanCut.f k bt446.1 bt446.2.1 bt446.2.2.1 bt446.2.2.2 a1).bind fun t455 => ((laws_eqStringS.f k t455 t443).bind fun t458 => (if t458 = true then ((laws_toPlan.f k a0_0 a0_1 l0_2 l0_3).bind fun bt459 => ((laws_eqPlan.f k bt446.1 bt446.2.1 bt446.2.2.1 bt446.2.2.2 bt459.1 bt459.2.1 bt459.2.2.1 bt459.2.2.2).bind fun t467 => (if t467 = true then ((laws_markPlan.f k bt446.1 bt446.2.1 bt446.2.2.1 bt446.2.2.2 1).bind fun bt468 => (if bt468.1 < 0 then (laws_FnExactPlanCut.j0 k a1 t443 t455 true a0_0 a0_1 l0_2 l0_3) else ((laws_eqStringS.f k t455 t443).bind fun t471 => (laws_FnExactPlanCut.j0 k a1 t443 t455 (!t471) a0_0 a0_1 l0_2 l0_3)))) else (some false)))) else (some false)))))) = some true := H
   have A10 := Aside0.mk A100
   clear A100
   replace H := Option.bind_eq_some_iff.mp H
   obtain ⟨t443, A110, H⟩ := H
   replace H : ((laws_toPlan.f k a0_0 a0_1 l0_2 l0_3).bind fun bt446 => ((impl_PlanCut.f k bt446.1 bt446.2.1 bt446.2.2.1 bt446.2.2.2 a1).bind fun t455 => ((laws_eqStringS.f k t455 t443).bind fun t458 => (if t458 = true then ((laws_toPlan.f k a0_0 a0_1 l0_2 l0_3).bind fun bt459 => ((laws_eqPlan.f k bt446.1 bt446.2.1 bt446.2.2.1 bt446.2.2.2 bt459.1 bt459.2.1 bt459.2.2.1 bt459.2.2.2).bind fun t467 => (if t467 = true then ((laws_markPlan.f k bt446.1 bt446.2.1 bt446.2.2.1 bt446.2.2.2 1).bind fun bt468 => (if bt468.1 < 0 then (laws_FnExactPlanCut.j0 k a1 t443 t455 true a0_0 a0_1 l0_2 l0_3) else ((laws_eqStringS.f k t455 t443).bind fun t471 => (laws_FnExactPlanCut.j0 k a1 t443 t455 (!t471) a0_0 a0_1 l0_2 l0_3)))) else (some false)))) else (some false))))) = some true := H
   have A11 := Aside0.mk A110
   clear A110
   replace H := Option.bind_eq_some_iff.mp H
   obtain ⟨⟨t446, t447, t448, t451⟩, A120, H⟩ := H
   replace H : ((impl_PlanCut.f k t446 t447 t448 t451 a1).bind fun t455 => ((laws_eqStringS.f k t455 t443).bind fun t458 => (if t458 = true then ((laws_toPlan.f k a0_0 a0_1 l0_2 l0_3).bind fun bt459 => ((laws_eqPlan.f k t446 t447 t448 t451 bt459.1 bt459.2.1 bt459.2.2.1 bt459.2.2.2).bind fun t467 => (if t467 = true then ((laws_markPlan.f k t446 t447 t448 t451 1).bind fun bt468 => (if bt468.1 < 0 then (laws_FnExactPlanCut.j0 k a1 t443 t455 true a0_0 a0_1 l0_2 l0_3) else ((laws_eqStringS.f k t455 t443).bind fun t471 => (laws_FnExactPlanCut.j0 k a1 t443 t455 (!t471) a0_0 a0_1 l0_2 l0_3)))) else (some false)))) else (some false)))) = some true := H
   have A12 := Aside0.mk A120
   clear A120
   replace H := Option.bind_eq_some_iff.mp H
   obtain ⟨t455, A130, H⟩ := H
   replace H : ((laws_eqStringS.f k t455 t443).bind fun t458 => (if t458 = true then ((laws_toPlan.f k a0_0 a0_1 l0_2 l0_3).bind fun bt459 => ((laws_eqPlan.f k t446 t447 t448 t451 bt459.1 bt459.2.1 bt459.2.2.1 bt459.2.2.2).bind fun t467 => (if t467 = true then ((laws_markPlan.f k t446 t447 t448 t451 1).bind fun bt468 => (if bt468.1 < 0 then (laws_FnExactPlanCut.j0 k a1 t443 t455 true a0_0 a0_1 l0_2 l0_3) else ((laws_eqStringS.f k t455 t443).bind fun t471 => (laws_FnExactPlanCut.j0 k a1 t443 t455 (!t471) a0_0 a0_1 l0_2 l0_3)))) else (some false)))) else (some false))) = some true := H
   have A13 := Aside0.mk A130
   clear A130
   replace H := Option.bind_eq_some_iff.mp H
   obtain ⟨t458, A140, H⟩ := H
   replace H : (if t458 = true then ((laws_toPlan.f k a0_0 a0_1 l0_2 l0_3).bind fun bt459 => ((laws_eqPlan.f k t446 t447 t448 t451 bt459.1 bt459.2.1 bt459.2.2.1 bt459.2.2.2).bind fun t467 => (if t467 = true then ((laws_markPlan.f k t446 t447 t448 t451 1).bind fun bt468 => (if bt468.1 < 0 then (laws_FnExactPlanCut.j0 k a1 t443 t455 true a0_0 a0_1 l0_2 l0_3) else ((laws_eqStringS.f k t455 t443).bind fun t471 => (laws_FnExactPlanCut.j0 k a1 t443 t455 (!t471) a0_0 a0_1 l0_2 l0_3)))) else (some false)))) else (some false)) = some true := H
   have A14 := Aside0.mk A140
   clear A140
   by_cases c15 : t458 = true
   ·subst c15
    have H1 : ((laws_toPlan.f k a0_0 a0_1 l0_2 l0_3).bind fun bt459 => ((laws_eqPlan.f k t446 t447 t448 t451 bt459.1 bt459.2.1 bt459.2.2.1 bt459.2.2.2).bind fun t467 => (if t467 = true then ((laws_markPlan.f k t446 t447 t448 t451 1).bind fun bt468 => (if bt468.1 < 0 then (laws_FnExactPlanCut.j0 k a1 t443 t455 true a0_0 a0_1 l0_2 l0_3) else ((laws_eqStringS.f k t455 t443).bind fun t471 => (laws_FnExactPlanCut.j0 k a1 t443 t455 (!t471) a0_0 a0_1 l0_2 l0_3)))) else (some false)))) = some true := by rw [if_pos rfl] at H; exact H
    clear H
    have H := H1
    clear H1
    replace H := Option.bind_eq_some_iff.mp H
    obtain ⟨⟨t459, t460, t461, t464⟩, A160, H⟩ := H
    replace H : ((laws_eqPlan.f k t446 t447 t448 t451 t459 t460 t461 t464).bind fun t467 => (if t467 = true then ((laws_markPlan.f k t446 t447 t448 t451 1).bind fun bt468 => (if bt468.1 < 0 then (laws_FnExactPlanCut.j0 k a1 t443 t455 true a0_0 a0_1 l0_2 l0_3) else ((laws_eqStringS.f k t455 t443).bind fun t471 => (laws_FnExactPlanCut.j0 k a1 t443 t455 (!t471) a0_0 a0_1 l0_2 l0_3)))) else (some false))) = some true := H
    have A16 := Aside0.mk A160
    clear A160
    replace H := Option.bind_eq_some_iff.mp H
    obtain ⟨t467, A170, H⟩ := H
    replace H : (if t467 = true then ((laws_markPlan.f k t446 t447 t448 t451 1).bind fun bt468 => (if bt468.1 < 0 then (laws_FnExactPlanCut.j0 k a1 t443 t455 true a0_0 a0_1 l0_2 l0_3) else ((laws_eqStringS.f k t455 t443).bind fun t471 => (laws_FnExactPlanCut.j0 k a1 t443 t455 (!t471) a0_0 a0_1 l0_2 l0_3)))) else (some false)) = some true := H
    have A17 := Aside0.mk A170
    clear A170
    by_cases c18 : t467 = true
    ·subst c18
     have H1 : ((laws_markPlan.f k t446 t447 t448 t451 1).bind fun bt468 => (if bt468.1 < 0 then (laws_FnExactPlanCut.j0 k a1 t443 t455 true a0_0 a0_1 l0_2 l0_3) else ((laws_eqStringS.f k t455 t443).bind fun t471 => (laws_FnExactPlanCut.j0 k a1 t443 t455 (!t471) a0_0 a0_1 l0_2 l0_3)))) = some true := by rw [if_pos rfl] at H; exact H
     clear H
     have H := H1
     clear H1
     replace H := Option.bind_eq_some_iff.mp H
     obtain ⟨⟨t468, t469, t470⟩, A190, H⟩ := H
     replace H : (if t468 < 0 then (laws_FnExactPlanCut.j0 k a1 t443 t455 true a0_0 a0_1 l0_2 l0_3) else ((laws_eqStringS.f k t455 t443).bind fun t471 => (laws_FnExactPlanCut.j0 k a1 t443 t455 (!t471) a0_0 a0_1 l0_2 l0_3))) = some true := H
     have A19 := Aside0.mk A190
     clear A190
     have HC20 := Aside0.mk H
     clear H
     go_enter Try.func5, Try.ntmps5
     try go_wp2_with (first | ((with_reducible refine gate_dst (N := 2) rfl ?_); refine box_event ?hg (N := 2) ?hd (cs := #[.int .i64 a0_0, .int .i64 a0_1, .slice A0_2 l0_2.length c0_2, .slice A0_3 l0_3.length c0_3]) (t := 42) ?hr ?_; (case hd => rfl); (case hg => rfl); (case hr => first | (go_simp; done) | (go_simp; rfl)); intro gb433 hg w21 hbox hb; have n0_ := Aside0.mk (below_step (by repeat (first | (with_reducible first | exact HB.out | apply below_alloc | apply pw_below_drewN | apply below_drew1) | exact HB.out)) hb); have n1_ := Aside0.mk (hbox); have n2_ := Aside0.mk ((by rw [hg]; exact (below_size (by repeat (first | (with_reducible first | exact HB.out | apply below_alloc | apply pw_below_drewN | apply below_drew1) | exact HB.out))) : w.heap.size ≤ gb433)); have n3_ := Aside0.mk ((by rw [hg]; exact (below_size (by repeat (first | (with_reducible first | exact HB.out | apply below_alloc | apply pw_below_drewN | apply below_drew1) | exact HB.out))) : w.heap.size ≤ gb433)); clear HB; have HB := n0_; have BK433 := n1_; have GW433 := n2_; have GE433 := n3_; clear n0_ n1_ n2_ n3_; clear hb hbox hg; have hcz22_0 : w21.cell? ⟨gb433, 0, none⟩ = some (.int .i64 a0_0) := (blk_cell BK433.out 0).trans rfl; have hcz22_1 : w21.cell? ⟨gb433, 1, none⟩ = some (.int .i64 a0_1) := (blk_cell BK433.out 1).trans rfl; have hcz22_2 : w21.cell? ⟨gb433, 2, none⟩ = some (.slice A0_2 l0_2.length c0_2) := (blk_cell BK433.out 2).trans rfl; have hcz22_3 : w21.cell? ⟨gb433, 3, none⟩ = some (.slice A0_3 l0_3.length c0_3) := (blk_cell BK433.out 3).trans rfl; have hfz22_0 := blk_frozen BK433.out 0; have hfz22_1 := blk_frozen BK433.out 1; have hfz22_2 := blk_frozen BK433.out 2; have hfz22_3 := blk_frozen BK433.out 3) | ((with_reducible refine gate_callee (f := 27) rfl ?_); refine goesL_ (some 18) rfl rfl Try.func27 (by kernel_rfl) rfl #[.agg #[.int .i64 a0_0, .int .i64 a0_1, .slice A0_2 l0_2.length c0_2, .slice A0_3 l0_3.length c0_3], .int .i64 1048576] rfl (by (try simp only [List.map_toArray, List.map_cons, List.map_nil]); first | done | rfl | (simp only [List.length_drop, List.length_take]; rfl)) ?_; (with_reducible refine (laws_szPlan.calls a0_0 a0_1 _ _ l0_2 _ _ l0_3 1048576 t434 _ ?side1 ?side2 ?side3 ?side4 A5.out).mono ?_); (case side1 => repeat (first | exact (Kd.C_below HR0_2.out HB.out) | (with_reducible refine Kd.C_alloc ?_ _) | (with_reducible refine Kd.C_drewN ?_ _) | (with_reducible refine Kd.C_drew ?_))); (case side2 => exact HC0_2.out); (case side3 => repeat (first | exact (Kd.C_below HR0_3.out HB.out) | (with_reducible refine Kd.C_alloc ?_ _) | (with_reducible refine Kd.C_drewN ?_ _) | (with_reducible refine Kd.C_drew ?_))); (case side4 => exact HC0_3.out); rintro e w23 ⟨rfl, hb⟩; refine ⟨_, rfl, ?_⟩; have n0_ := Aside0.mk (blk_below (g := gb433) (o := .cells #[.int .i64 a0_0, .int .i64 a0_1, .slice A0_2 l0_2.length c0_2, .slice A0_3 l0_3.length c0_3] 42 (0, 0)) (by (with_reducible repeat (first | refine blk_drewN ?_ _ | refine blk_drew ?_ | refine blk_alloc ?_ _)); exact BK433.out) hb); have n1_ := Aside0.mk (below_step (by repeat (first | (with_reducible first | exact HB.out | apply below_alloc | apply pw_below_drewN | apply below_drew1 | refine below_set ?_ GE433.out) | exact HB.out)) hb); clear BK433; clear HB; have BK433 := n0_; have HB := n1_; clear n0_ n1_; (try clear hb); (try clear hb2); (try clear hk); (try clear hi); have hcz24_0 : w23.cell? ⟨gb433, 0, none⟩ = some (.int .i64 a0_0) := (blk_cell BK433.out 0).trans rfl; have hcz24_1 : w23.cell? ⟨gb433, 1, none⟩ = some (.int .i64 a0_1) := (blk_cell BK433.out 1).trans rfl; have hcz24_2 : w23.cell? ⟨gb433, 2, none⟩ = some (.slice A0_2 l0_2.length c0_2) := (blk_cell BK433.out 2).trans rfl; have hcz24_3 : w23.cell? ⟨gb433, 3, none⟩ = some (.slice A0_3 l0_3.length c0_3) := (blk_cell BK433.out 3).trans rfl; have hfz24_0 := blk_frozen BK433.out 0; have hfz24_1 := blk_frozen BK433.out 1; have hfz24_2 := blk_frozen BK433.out 2; have hfz24_3 := blk_frozen BK433.out 3) | ((with_reducible refine gate_callee (f := 29) rfl ?_); refine goesL_ (some 22) rfl rfl Try.func29 (by kernel_rfl) rfl #[.agg #[.int .i64 a0_0, .int .i64 a0_1, .slice A0_2 l0_2.length c0_2, .slice A0_3 l0_3.length c0_3]] rfl (by (try simp only [List.map_toArray, List.map_cons, List.map_nil]); first | done | rfl | (simp only [List.length_drop, List.length_take]; rfl)) ?_; (with_reducible refine (laws_toPlan.calls k a0_0 a0_1 _ _ l0_2 _ _ l0_3 t435 t436 t437 t440 _ ?side1 ?side2 ?side3 ?side4 A10.out).mono ?_); (case side1 => repeat (first | exact (Kd.C_below HR0_2.out HB.out) | (with_reducible refine Kd.C_alloc ?_ _) | (with_reducible refine Kd.C_drewN ?_ _) | (with_reducible refine Kd.C_drew ?_))); (case side2 => exact HC0_2.out); (case side3 => repeat (first | exact (Kd.C_below HR0_3.out HB.out) | (with_reducible refine Kd.C_alloc ?_ _) | (with_reducible refine Kd.C_drewN ?_ _) | (with_reducible refine Kd.C_drew ?_))); (case side4 => exact HC0_3.out); rintro e w25 ⟨v438, v441, rfl, ho0, ho1, hb⟩; refine ⟨_, rfl, ?_⟩; have n0_ := Aside0.mk (Kd.R_lower ho0 (below_size (by repeat (first | (with_reducible first | exact HB.out | apply below_alloc | apply pw_below_drewN | apply below_drew1 | refine below_set ?_ GE433.out) | exact HB.out)))); have n1_ := Aside0.mk (Kd.R_lower ho1 (below_size (by repeat (first | (with_reducible first | exact HB.out | apply below_alloc | apply pw_below_drewN | apply below_drew1 | refine below_set ?_ GE433.out) | exact HB.out)))); have n2_ := Aside0.mk (blk_below (g := gb433) (o := .cells #[.int .i64 a0_0, .int .i64 a0_1, .slice A0_2 l0_2.length c0_2, .slice A0_3 l0_3.length c0_3] 42 (0, 0)) (by (with_reducible repeat (first | refine blk_drewN ?_ _ | refine blk_drew ?_ | refine blk_alloc ?_ _)); exact BK433.out) hb); have n3_ := Aside0.mk (below_step (by repeat (first | (with_reducible first | exact HB.out | apply below_alloc | apply pw_below_drewN | apply below_drew1 | refine below_set ?_ GE433.out) | exact HB.out)) hb); clear BK433; clear HB; have HO439 := n0_; have HO442 := n1_; have BK433 := n2_; have HB := n3_; clear n0_ n1_ n2_ n3_; (try clear hb); (try clear hb2); (try clear hk); (try clear hi); (try clear ho0); (try clear ho1); obtain ⟨Ao26, co26, eo26⟩ := Kd.R_slice HO439.out; subst eo26; obtain ⟨Ao27, co27, eo27⟩ := Kd.R_slice HO442.out; subst eo27) | ((with_reducible refine gate_callee (f := 28) rfl ?_); refine goesL_ (some 24) rfl rfl Try.func28 (by kernel_rfl) rfl #[.agg #[.int .i64 t435, .int .i64 t436, .slice Ao26 t437.length co26, .slice Ao27 t440.length co27], .string a1] rfl (by (try simp only [List.map_toArray, List.map_cons, List.map_nil]); first | done | rfl | (simp only [List.length_drop, List.length_take]; rfl)) ?_; (with_reducible refine (spec_PlanCut.calls k t435 t436 _ _ t437 _ _ t440 a1 t443 _ ?side1 ?side2 ?side3 ?side4 A11.out).mono ?_); (case side1 => repeat (first | exact (Kd.R_reads' HO439.out).2.2 | (with_reducible refine Kd.C_alloc ?_ _) | (with_reducible refine Kd.C_drewN ?_ _) | (with_reducible refine Kd.C_drew ?_))); (case side2 => exact (Kd.R_reads' HO439.out).2.1); (case side3 => repeat (first | exact (Kd.R_reads' HO442.out).2.2 | (with_reducible refine Kd.C_alloc ?_ _) | (with_reducible refine Kd.C_drewN ?_ _) | (with_reducible refine Kd.C_drew ?_))); (case side4 => exact (Kd.R_reads' HO442.out).2.1); rintro e w28 ⟨v444, rfl, ho0, hb⟩; refine ⟨_, rfl, ?_⟩; have n0_ := Aside0.mk (Kd.R_below (by (with_reducible repeat (first | apply Kd.R_alloc | apply Kd.R_drewN | apply Kd.R_drew)); exact HO439.out) hb); have n1_ := Aside0.mk (Kd.R_below (by (with_reducible repeat (first | apply Kd.R_alloc | apply Kd.R_drewN | apply Kd.R_drew)); exact HO442.out) hb); have n2_ := Aside0.mk (Kd.R_lower ho0 (below_size (by repeat (first | (with_reducible first | exact HB.out | apply below_alloc | apply pw_below_drewN | apply below_drew1 | refine below_set ?_ GE433.out) | exact HB.out)))); have n3_ := Aside0.mk (blk_below (g := gb433) (o := .cells #[.int .i64 a0_0, .int .i64 a0_1, .slice A0_2 l0_2.length c0_2, .slice A0_3 l0_3.length c0_3] 42 (0, 0)) (by (with_reducible repeat (first | refine blk_drewN ?_ _ | refine blk_drew ?_ | refine blk_alloc ?_ _)); exact BK433.out) hb); have n4_ := Aside0.mk (below_step (by repeat (first | (with_reducible first | exact HB.out | apply below_alloc | apply pw_below_drewN | apply below_drew1 | refine below_set ?_ GE433.out) | exact HB.out)) hb); clear HO439; clear HO442; clear BK433; clear HB; have HO439 := n0_; have HO442 := n1_; have HO445 := n2_; have BK433 := n3_; have HB := n4_; clear n0_ n1_ n2_ n3_ n4_; (try clear hb); (try clear hb2); (try clear hk); (try clear hi); (try clear ho0); have hcz29_0 : w28.cell? ⟨gb433, 0, none⟩ = some (.int .i64 a0_0) := (blk_cell BK433.out 0).trans rfl; have hcz29_1 : w28.cell? ⟨gb433, 1, none⟩ = some (.int .i64 a0_1) := (blk_cell BK433.out 1).trans rfl; have hcz29_2 : w28.cell? ⟨gb433, 2, none⟩ = some (.slice A0_2 l0_2.length c0_2) := (blk_cell BK433.out 2).trans rfl; have hcz29_3 : w28.cell? ⟨gb433, 3, none⟩ = some (.slice A0_3 l0_3.length c0_3) := (blk_cell BK433.out 3).trans rfl; have hfz29_0 := blk_frozen BK433.out 0; have hfz29_1 := blk_frozen BK433.out 1; have hfz29_2 := blk_frozen BK433.out 2; have hfz29_3 := blk_frozen BK433.out 3) | ((with_reducible refine gate_callee (f := 29) rfl ?_); refine goesL_ (some 26) rfl rfl Try.func29 (by kernel_rfl) rfl #[.agg #[.int .i64 a0_0, .int .i64 a0_1, .slice A0_2 l0_2.length c0_2, .slice A0_3 l0_3.length c0_3]] rfl (by (try simp only [List.map_toArray, List.map_cons, List.map_nil]); first | done | rfl | (simp only [List.length_drop, List.length_take]; rfl)) ?_; (with_reducible refine (laws_toPlan.calls k a0_0 a0_1 _ _ l0_2 _ _ l0_3 t446 t447 t448 t451 _ ?side1 ?side2 ?side3 ?side4 A12.out).mono ?_); (case side1 => repeat (first | exact (Kd.C_below HR0_2.out HB.out) | (with_reducible refine Kd.C_alloc ?_ _) | (with_reducible refine Kd.C_drewN ?_ _) | (with_reducible refine Kd.C_drew ?_))); (case side2 => exact HC0_2.out); (case side3 => repeat (first | exact (Kd.C_below HR0_3.out HB.out) | (with_reducible refine Kd.C_alloc ?_ _) | (with_reducible refine Kd.C_drewN ?_ _) | (with_reducible refine Kd.C_drew ?_))); (case side4 => exact HC0_3.out); rintro e w30 ⟨v449, v452, rfl, ho0, ho1, hb⟩; refine ⟨_, rfl, ?_⟩; have n0_ := Aside0.mk (Kd.R_mono (Kd.R_told (Kd.R_told (Kd.R_old (by (with_reducible repeat (first | apply Kd.R_alloc | apply Kd.R_drewN | apply Kd.R_drew)); exact HO439.out) hb) (Kd.R_base ho0)) (Kd.R_base ho1)) (fun _ h_ => h_.1)); have n1_ := Aside0.mk (Kd.R_mono (Kd.R_told (Kd.R_told (Kd.R_old (by (with_reducible repeat (first | apply Kd.R_alloc | apply Kd.R_drewN | apply Kd.R_drew)); exact HO442.out) hb) (Kd.R_base ho0)) (Kd.R_base ho1)) (fun _ h_ => h_.1)); have n2_ := Aside0.mk (Kd.R_below (by (with_reducible repeat (first | apply Kd.R_alloc | apply Kd.R_drewN | apply Kd.R_drew)); exact HO445.out) hb); have n3_ := Aside0.mk (Kd.R_lower (Kd.R_new' (Kd.R_new' ho0 (Kd.R_lt (by (with_reducible repeat (first | apply Kd.R_alloc | apply Kd.R_drewN | apply Kd.R_drew)); exact HO439.out))) (Kd.R_lt (by (with_reducible repeat (first | apply Kd.R_alloc | apply Kd.R_drewN | apply Kd.R_drew)); exact HO442.out))) (below_size (by repeat (first | (with_reducible first | exact HB.out | apply below_alloc | apply pw_below_drewN | apply below_drew1 | refine below_set ?_ GE433.out) | exact HB.out)))); have n4_ := Aside0.mk (Kd.R_lower (Kd.R_new' (Kd.R_new' ho1 (Kd.R_lt (by (with_reducible repeat (first | apply Kd.R_alloc | apply Kd.R_drewN | apply Kd.R_drew)); exact HO439.out))) (Kd.R_lt (by (with_reducible repeat (first | apply Kd.R_alloc | apply Kd.R_drewN | apply Kd.R_drew)); exact HO442.out))) (below_size (by repeat (first | (with_reducible first | exact HB.out | apply below_alloc | apply pw_below_drewN | apply below_drew1 | refine below_set ?_ GE433.out) | exact HB.out)))); have n5_ := Aside0.mk (blk_below (g := gb433) (o := .cells #[.int .i64 a0_0, .int .i64 a0_1, .slice A0_2 l0_2.length c0_2, .slice A0_3 l0_3.length c0_3] 42 (0, 0)) (by (with_reducible repeat (first | refine blk_drewN ?_ _ | refine blk_drew ?_ | refine blk_alloc ?_ _)); exact BK433.out) hb); have n6_ := Aside0.mk (below_step (by repeat (first | (with_reducible first | exact HB.out | apply below_alloc | apply pw_below_drewN | apply below_drew1 | refine below_set ?_ GE433.out) | exact HB.out)) hb); clear HO439; clear HO442; clear HO445; clear BK433; clear HB; have HO439 := n0_; have HO442 := n1_; have HO445 := n2_; have HO450 := n3_; have HO453 := n4_; have BK433 := n5_; have HB := n6_; clear n0_ n1_ n2_ n3_ n4_ n5_ n6_; (try clear hb); (try clear hb2); (try clear hk); (try clear hi); (try clear ho0); (try clear ho1)) | ((with_reducible refine gate_dst (N := 7) rfl ?_); refine box_event ?hg (N := 7) ?hd (cs := #[.int .i64 0, .int .i64 0, .slice none 0 0, .slice none 0 0]) (t := 46) ?hr ?_; (case hd => rfl); (case hg => rfl); (case hr => first | (go_simp; done) | (go_simp; rfl)); intro gb454 hg w31 hbox hb; have n0_ := Aside0.mk (Kd.R_below (by (with_reducible repeat (first | apply Kd.R_alloc | apply Kd.R_drewN | apply Kd.R_drew)); exact HO439.out) hb); have n1_ := Aside0.mk (Kd.R_below (by (with_reducible repeat (first | apply Kd.R_alloc | apply Kd.R_drewN | apply Kd.R_drew)); exact HO442.out) hb); have n2_ := Aside0.mk (Kd.R_below (by (with_reducible repeat (first | apply Kd.R_alloc | apply Kd.R_drewN | apply Kd.R_drew)); exact HO445.out) hb); have n3_ := Aside0.mk (Kd.R_below (by (with_reducible repeat (first | apply Kd.R_alloc | apply Kd.R_drewN | apply Kd.R_drew)); exact HO450.out) hb); have n4_ := Aside0.mk (Kd.R_below (by (with_reducible repeat (first | apply Kd.R_alloc | apply Kd.R_drewN | apply Kd.R_drew)); exact HO453.out) hb); have n5_ := Aside0.mk (blk_below (g := gb433) (o := .cells #[.int .i64 a0_0, .int .i64 a0_1, .slice A0_2 l0_2.length c0_2, .slice A0_3 l0_3.length c0_3] 42 (0, 0)) (by (with_reducible repeat (first | refine blk_drewN ?_ _ | refine blk_drew ?_ | refine blk_alloc ?_ _)); exact BK433.out) hb); have n6_ := Aside0.mk (below_step (by repeat (first | (with_reducible first | exact HB.out | apply below_alloc | apply pw_below_drewN | apply below_drew1 | refine below_set ?_ GE433.out) | exact HB.out)) hb); have n7_ := Aside0.mk (hbox); have n8_ := Aside0.mk ((by rw [hg]; exact (below_size (by repeat (first | (with_reducible first | exact HB.out | apply below_alloc | apply pw_below_drewN | apply below_drew1 | refine below_set ?_ GE433.out) | exact HB.out))) : w.heap.size ≤ gb454)); have n9_ := Aside0.mk ((by rw [hg]; exact (below_size (by repeat (first | (with_reducible first | exact HB.out | apply below_alloc | apply pw_below_drewN | apply below_drew1 | refine below_set ?_ GE433.out) | exact HB.out))) : w.heap.size ≤ gb454)); have n10_ := Aside0.mk ((by rw [hg]; exact Nat.ne_of_lt (blk_lt (g := gb433) (o := .cells #[.int .i64 a0_0, .int .i64 a0_1, .slice A0_2 l0_2.length c0_2, .slice A0_3 l0_3.length c0_3] 42 (0, 0)) (by (with_reducible repeat (first | refine blk_drewN ?_ _ | refine blk_drew ?_ | refine blk_alloc ?_ _)); exact BK433.out)) : gb433 ≠ gb454)); have n11_ := Aside0.mk ((by rw [hg]; exact Nat.ne_of_gt (blk_lt (g := gb433) (o := .cells #[.int .i64 a0_0, .int .i64 a0_1, .slice A0_2 l0_2.length c0_2, .slice A0_3 l0_3.length c0_3] 42 (0, 0)) (by (with_reducible repeat (first | refine blk_drewN ?_ _ | refine blk_drew ?_ | refine blk_alloc ?_ _)); exact BK433.out)) : gb454 ≠ gb433)); clear HO439; clear HO442; clear HO445; clear HO450; clear HO453; clear BK433; clear HB; have HO439 := n0_; have HO442 := n1_; have HO445 := n2_; have HO450 := n3_; have HO453 := n4_; have BK433 := n5_; have HB := n6_; have BK454 := n7_; have GW454 := n8_; have GE454 := n9_; have NB433_454 := n10_; have NB454_433 := n11_; clear n0_ n1_ n2_ n3_ n4_ n5_ n6_ n7_ n8_ n9_ n10_ n11_; clear hb hbox hg; have hnb32 := NB454_433.out; have hnc32 := NB433_454.out; have hcz33_0 : w31.cell? ⟨gb454, 0, none⟩ = some (.int .i64 0) := (blk_cell BK454.out 0).trans rfl; have hcz33_1 : w31.cell? ⟨gb454, 1, none⟩ = some (.int .i64 0) := (blk_cell BK454.out 1).trans rfl; have hcz33_2 : w31.cell? ⟨gb454, 2, none⟩ = some (.slice none 0 0) := (blk_cell BK454.out 2).trans rfl; have hcz33_3 : w31.cell? ⟨gb454, 3, none⟩ = some (.slice none 0 0) := (blk_cell BK454.out 3).trans rfl; have hfz33_0 := blk_frozen BK454.out 0; have hfz33_1 := blk_frozen BK454.out 1; have hfz33_2 := blk_frozen BK454.out 2; have hfz33_3 := blk_frozen BK454.out 3; obtain ⟨Ao34, co34, eo34⟩ := Kd.R_slice HO450.out; subst eo34; obtain ⟨Ao35, co35, eo35⟩ := Kd.R_slice HO453.out; subst eo35) | ((with_reducible refine gate_callee (f := 30) rfl ?_); refine goesL_ (some 29) rfl rfl Try.func30 (by kernel_rfl) rfl #[.agg #[.int .i64 t446, .int .i64 t447, .slice Ao34 t448.length co34, .slice Ao35 t451.length co35], .string a1] rfl (by (try simp only [List.map_toArray, List.map_cons, List.map_nil]); first | done | rfl | (simp only [List.length_drop, List.length_take]; rfl)) ?_; (with_reducible refine (impl_PlanCut.calls k t446 t447 _ _ t448 _ _ t451 a1 t455 _ ?side1 ?side2 ?side3 ?side4 A13.out).mono ?_); (case side1 => refine (Kd.R_reads' (e := 3) (base := w.heap.size) (ok := fun k_ => ((some k_ ≠ (.slice Ao35 t451.length co35 : Value).ownBlock ∧ some k_ ≠ (.slice Ao26 t437.length co26 : Value).ownBlock) ∧ some k_ ≠ (.slice Ao27 t440.length co27 : Value).ownBlock)) (n := t448.length) (c := co34) ?_).2.2; exact (by (with_reducible repeat (first | apply Kd.R_alloc | apply Kd.R_drewN | apply Kd.R_drew)); exact (Kd.R_mono (Kd.R_far (p := ⟨gb454, 3, none⟩) (Kd.R_far (p := ⟨gb454, 2, none⟩) (Kd.R_far (p := ⟨gb454, 1, none⟩) (Kd.R_far (p := ⟨gb454, 0, none⟩) (Kd.R_types HO450.out BK454.out (by decide)) (fun _ hk => pj_ hk) (.int .i64 t446)) (fun _ hk => pj_ hk) (.int .i64 t447)) (fun _ hk => pj_ hk) (.slice Ao34 t448.length co34)) (fun _ hk => pj_ hk) (.slice Ao35 t451.length co35)) (fun _ h_ => h_.1)))); (case side2 => exact (Kd.R_reads' HO450.out).2.1); (case side3 => refine (Kd.R_reads' (e := 3) (base := w.heap.size) (ok := fun k_ => ((some k_ ≠ (.slice Ao34 t448.length co34 : Value).ownBlock ∧ some k_ ≠ (.slice Ao26 t437.length co26 : Value).ownBlock) ∧ some k_ ≠ (.slice Ao27 t440.length co27 : Value).ownBlock)) (n := t451.length) (c := co35) ?_).2.2; exact (by (with_reducible repeat (first | apply Kd.R_alloc | apply Kd.R_drewN | apply Kd.R_drew)); exact (Kd.R_mono (Kd.R_far (p := ⟨gb454, 3, none⟩) (Kd.R_far (p := ⟨gb454, 2, none⟩) (Kd.R_far (p := ⟨gb454, 1, none⟩) (Kd.R_far (p := ⟨gb454, 0, none⟩) (Kd.R_types HO453.out BK454.out (by decide)) (fun _ hk => pj_ hk) (.int .i64 t446)) (fun _ hk => pj_ hk) (.int .i64 t447)) (fun _ hk => pj_ hk) (.slice Ao34 t448.length co34)) (fun _ hk => pj_ hk) (.slice Ao35 t451.length co35)) (fun _ h_ => h_.1)))); (case side4 => exact (Kd.R_reads' HO453.out).2.1); rintro e w36 ⟨v456, rfl, ho0, hb⟩; refine ⟨_, rfl, ?_⟩; have n0_ := Aside0.mk (Kd.R_below (by (with_reducible repeat (first | apply Kd.R_alloc | apply Kd.R_drewN | apply Kd.R_drew)); exact (Kd.R_mono (Kd.R_far (p := ⟨gb454, 3, none⟩) (Kd.R_far (p := ⟨gb454, 2, none⟩) (Kd.R_far (p := ⟨gb454, 1, none⟩) (Kd.R_far (p := ⟨gb454, 0, none⟩) (Kd.R_types HO439.out BK454.out (by decide)) (fun _ hk => pj_ hk) (.int .i64 t446)) (fun _ hk => pj_ hk) (.int .i64 t447)) (fun _ hk => pj_ hk) (.slice Ao34 t448.length co34)) (fun _ hk => pj_ hk) (.slice Ao35 t451.length co35)) (fun _ h_ => h_.1))) hb); have n1_ := Aside0.mk (Kd.R_below (by (with_reducible repeat (first | apply Kd.R_alloc | apply Kd.R_drewN | apply Kd.R_drew)); exact (Kd.R_mono (Kd.R_far (p := ⟨gb454, 3, none⟩) (Kd.R_far (p := ⟨gb454, 2, none⟩) (Kd.R_far (p := ⟨gb454, 1, none⟩) (Kd.R_far (p := ⟨gb454, 0, none⟩) (Kd.R_types HO442.out BK454.out (by decide)) (fun _ hk => pj_ hk) (.int .i64 t446)) (fun _ hk => pj_ hk) (.int .i64 t447)) (fun _ hk => pj_ hk) (.slice Ao34 t448.length co34)) (fun _ hk => pj_ hk) (.slice Ao35 t451.length co35)) (fun _ h_ => h_.1))) hb); have n2_ := Aside0.mk (Kd.R_elder' (by (with_reducible repeat (first | apply Kd.R_alloc | apply Kd.R_drewN | apply Kd.R_drew)); exact (Kd.R_mono (Kd.R_far (p := ⟨gb454, 3, none⟩) (Kd.R_far (p := ⟨gb454, 2, none⟩) (Kd.R_far (p := ⟨gb454, 1, none⟩) (Kd.R_far (p := ⟨gb454, 0, none⟩) (Kd.R_types HO445.out BK454.out (by decide)) (fun _ hk => pj_ hk) (.int .i64 t446)) (fun _ hk => pj_ hk) (.int .i64 t447)) (fun _ hk => pj_ hk) (.slice Ao34 t448.length co34)) (fun _ hk => pj_ hk) (.slice Ao35 t451.length co35)) (fun _ h_ => h_.1))) (Kd.R_base ho0) hb); have n3_ := Aside0.mk (Kd.R_below (by (with_reducible repeat (first | apply Kd.R_alloc | apply Kd.R_drewN | apply Kd.R_drew)); exact (Kd.R_mono (Kd.R_far (p := ⟨gb454, 3, none⟩) (Kd.R_far (p := ⟨gb454, 2, none⟩) (Kd.R_far (p := ⟨gb454, 1, none⟩) (Kd.R_far (p := ⟨gb454, 0, none⟩) (Kd.R_types HO450.out BK454.out (by decide)) (fun _ hk => pj_ hk) (.int .i64 t446)) (fun _ hk => pj_ hk) (.int .i64 t447)) (fun _ hk => pj_ hk) (.slice Ao34 t448.length co34)) (fun _ hk => pj_ hk) (.slice Ao35 t451.length co35)) (fun _ h_ => h_.1))) hb); have n4_ := Aside0.mk (Kd.R_below (by (with_reducible repeat (first | apply Kd.R_alloc | apply Kd.R_drewN | apply Kd.R_drew)); exact (Kd.R_mono (Kd.R_far (p := ⟨gb454, 3, none⟩) (Kd.R_far (p := ⟨gb454, 2, none⟩) (Kd.R_far (p := ⟨gb454, 1, none⟩) (Kd.R_far (p := ⟨gb454, 0, none⟩) (Kd.R_types HO453.out BK454.out (by decide)) (fun _ hk => pj_ hk) (.int .i64 t446)) (fun _ hk => pj_ hk) (.int .i64 t447)) (fun _ hk => pj_ hk) (.slice Ao34 t448.length co34)) (fun _ hk => pj_ hk) (.slice Ao35 t451.length co35)) (fun _ h_ => h_.1))) hb); have n5_ := Aside0.mk (Kd.R_lower (Kd.R_new' ho0 (Kd.R_lt (by (with_reducible repeat (first | apply Kd.R_alloc | apply Kd.R_drewN | apply Kd.R_drew)); exact (Kd.R_mono (Kd.R_far (p := ⟨gb454, 3, none⟩) (Kd.R_far (p := ⟨gb454, 2, none⟩) (Kd.R_far (p := ⟨gb454, 1, none⟩) (Kd.R_far (p := ⟨gb454, 0, none⟩) (Kd.R_types HO445.out BK454.out (by decide)) (fun _ hk => pj_ hk) (.int .i64 t446)) (fun _ hk => pj_ hk) (.int .i64 t447)) (fun _ hk => pj_ hk) (.slice Ao34 t448.length co34)) (fun _ hk => pj_ hk) (.slice Ao35 t451.length co35)) (fun _ h_ => h_.1))))) (below_size (by repeat (first | (with_reducible first | exact HB.out | apply below_alloc | apply pw_below_drewN | apply below_drew1 | refine below_set ?_ GE433.out | refine below_set ?_ GE454.out) | exact HB.out)))); have n6_ := Aside0.mk (blk_below (g := gb433) (o := .cells #[.int .i64 a0_0, .int .i64 a0_1, .slice A0_2 l0_2.length c0_2, .slice A0_3 l0_3.length c0_3] 42 (0, 0)) (by (with_reducible repeat (first | refine blk_drewN ?_ _ | refine blk_drew ?_ | refine blk_alloc ?_ _)); refine blk_far ?_ NB433_454.out _; (with_reducible repeat (first | refine blk_drewN ?_ _ | refine blk_drew ?_ | refine blk_alloc ?_ _)); refine blk_far ?_ NB433_454.out _; (with_reducible repeat (first | refine blk_drewN ?_ _ | refine blk_drew ?_ | refine blk_alloc ?_ _)); refine blk_far ?_ NB433_454.out _; (with_reducible repeat (first | refine blk_drewN ?_ _ | refine blk_drew ?_ | refine blk_alloc ?_ _)); refine blk_far ?_ NB433_454.out _; (with_reducible repeat (first | refine blk_drewN ?_ _ | refine blk_drew ?_ | refine blk_alloc ?_ _)); exact BK433.out) hb); have n7_ := Aside0.mk (blk_below (g := gb454) (o := .cells #[.int .i64 t446, .int .i64 t447, .slice Ao34 t448.length co34, .slice Ao35 t451.length co35] 46 (0, 0)) (by (with_reducible repeat (first | refine blk_drewN ?_ _ | refine blk_drew ?_ | refine blk_alloc ?_ _)); refine blk_put (cs := #[.int .i64 t446, .int .i64 t447, .slice Ao34 t448.length co34, .slice none 0 0]) ?_ 3 _ rfl; (with_reducible repeat (first | refine blk_drewN ?_ _ | refine blk_drew ?_ | refine blk_alloc ?_ _)); refine blk_put (cs := #[.int .i64 t446, .int .i64 t447, .slice none 0 0, .slice none 0 0]) ?_ 2 _ rfl; (with_reducible repeat (first | refine blk_drewN ?_ _ | refine blk_drew ?_ | refine blk_alloc ?_ _)); refine blk_put (cs := #[.int .i64 t446, .int .i64 0, .slice none 0 0, .slice none 0 0]) ?_ 1 _ rfl; (with_reducible repeat (first | refine blk_drewN ?_ _ | refine blk_drew ?_ | refine blk_alloc ?_ _)); refine blk_put (cs := #[.int .i64 0, .int .i64 0, .slice none 0 0, .slice none 0 0]) ?_ 0 _ rfl; (with_reducible repeat (first | refine blk_drewN ?_ _ | refine blk_drew ?_ | refine blk_alloc ?_ _)); exact BK454.out) hb); have n8_ := Aside0.mk (below_step (by repeat (first | (with_reducible first | exact HB.out | apply below_alloc | apply pw_below_drewN | apply below_drew1 | refine below_set ?_ GE433.out | refine below_set ?_ GE454.out) | exact HB.out)) hb); clear HO439; clear HO442; clear HO445; clear HO450; clear HO453; clear BK433; clear BK454; clear HB; have HO439 := n0_; have HO442 := n1_; have HO445 := n2_; have HO450 := n3_; have HO453 := n4_; have HO457 := n5_; have BK433 := n6_; have BK454 := n7_; have HB := n8_; clear n0_ n1_ n2_ n3_ n4_ n5_ n6_ n7_ n8_; (try clear hb); (try clear hb2); (try clear hk); (try clear hi); (try clear ho0); obtain ⟨Ao37, co37, eo37⟩ := Kd.R_slice HO457.out; subst eo37; obtain ⟨Ao38, co38, eo38⟩ := Kd.R_slice HO445.out; subst eo38) | ((with_reducible refine gate_callee (f := 31) rfl ?_); refine goesL_ (some 32) rfl rfl Try.func31 (by kernel_rfl) rfl #[.slice Ao37 t455.length co37, .slice Ao38 t443.length co38] rfl (by (try simp only [List.map_toArray, List.map_cons, List.map_nil]); first | done | rfl | (simp only [List.length_drop, List.length_take]; rfl)) ?_; (with_reducible refine (laws_eqStringS.calls k _ _ t455 _ _ t443 true _ ?side1 ?side2 ?side3 ?side4 A14.out).mono ?_); (case side1 => repeat (first | exact (Kd.R_reads' HO457.out).2.2 | (with_reducible refine Kd.C_alloc ?_ _) | (with_reducible refine Kd.C_drewN ?_ _) | (with_reducible refine Kd.C_drew ?_))); (case side2 => exact (Kd.R_reads' HO457.out).2.1); (case side3 => repeat (first | exact (Kd.R_reads' HO445.out).2.2 | (with_reducible refine Kd.C_alloc ?_ _) | (with_reducible refine Kd.C_drewN ?_ _) | (with_reducible refine Kd.C_drew ?_))); (case side4 => exact (Kd.R_reads' HO445.out).2.1); rintro e w' ⟨rfl, ⟨nd, rfl⟩⟩; refine ⟨_, rfl, ?_⟩))
     (try (rw [drewN_self w36]; generalize hq_ : World.drewN w36 _ = w36; have n0_ : Aside0 (Kd.R (Kd.int .i64) 3 w36 w.heap.size (fun k_ => some k_ ≠ (.slice Ao27 t440.length co27 : Value).ownBlock ∧ some k_ ≠ (.slice Ao34 t448.length co34 : Value).ownBlock ∧ some k_ ≠ (.slice Ao35 t451.length co35 : Value).ownBlock) (.slice Ao26 t437.length co26) t437) := ⟨by rw [← hq_]; exact (by (with_reducible repeat (first | apply Kd.R_alloc | apply Kd.R_drewN | apply Kd.R_drew)); exact Kd.R_mono HO439.out (fun _ hk => ⟨hk.1.1, ⟨hk.1.2, hk.2⟩⟩))⟩; have n1_ : Aside0 (Kd.R (Kd.int .i64) 3 w36 w.heap.size (fun k_ => some k_ ≠ (.slice Ao26 t437.length co26 : Value).ownBlock ∧ some k_ ≠ (.slice Ao34 t448.length co34 : Value).ownBlock ∧ some k_ ≠ (.slice Ao35 t451.length co35 : Value).ownBlock) (.slice Ao27 t440.length co27) t440) := ⟨by rw [← hq_]; exact (by (with_reducible repeat (first | apply Kd.R_alloc | apply Kd.R_drewN | apply Kd.R_drew)); exact Kd.R_mono HO442.out (fun _ hk => ⟨hk.1.1, ⟨hk.1.2, hk.2⟩⟩))⟩; have n2_ : Aside0 (Kd.R Kd.string 9 w36 w.heap.size (fun k_ => some k_ ≠ (.slice Ao37 t455.length co37 : Value).ownBlock) (.slice Ao38 t443.length co38) t443) := ⟨by rw [← hq_]; exact (by (with_reducible repeat (first | apply Kd.R_alloc | apply Kd.R_drewN | apply Kd.R_drew)); exact Kd.R_mono HO445.out (fun _ hk => pj_ hk))⟩; have n3_ : Aside0 (Kd.R (Kd.int .i64) 3 w36 w.heap.size (fun k_ => some k_ ≠ (.slice Ao26 t437.length co26 : Value).ownBlock ∧ some k_ ≠ (.slice Ao27 t440.length co27 : Value).ownBlock ∧ some k_ ≠ (.slice Ao35 t451.length co35 : Value).ownBlock) (.slice Ao34 t448.length co34) t448) := ⟨by rw [← hq_]; exact (by (with_reducible repeat (first | apply Kd.R_alloc | apply Kd.R_drewN | apply Kd.R_drew)); exact Kd.R_mono HO450.out (fun _ hk => ⟨hk.1.2, ⟨hk.2, hk.1.1⟩⟩))⟩; have n4_ : Aside0 (Kd.R (Kd.int .i64) 3 w36 w.heap.size (fun k_ => some k_ ≠ (.slice Ao26 t437.length co26 : Value).ownBlock ∧ some k_ ≠ (.slice Ao27 t440.length co27 : Value).ownBlock ∧ some k_ ≠ (.slice Ao34 t448.length co34 : Value).ownBlock) (.slice Ao35 t451.length co35) t451) := ⟨by rw [← hq_]; exact (by (with_reducible repeat (first | apply Kd.R_alloc | apply Kd.R_drewN | apply Kd.R_drew)); exact Kd.R_mono HO453.out (fun _ hk => ⟨hk.1.2, ⟨hk.2, hk.1.1⟩⟩))⟩; have n5_ : Aside0 (Kd.R Kd.string 9 w36 w.heap.size (fun k_ => some k_ ≠ (.slice Ao38 t443.length co38 : Value).ownBlock) (.slice Ao37 t455.length co37) t455) := ⟨by rw [← hq_]; exact (by (with_reducible repeat (first | apply Kd.R_alloc | apply Kd.R_drewN | apply Kd.R_drew)); exact Kd.R_mono HO457.out (fun _ hk => pj_ hk))⟩; have n6_ : Aside0 (w36.heap[gb433]? = some (.cells #[.int .i64 a0_0, .int .i64 a0_1, .slice A0_2 l0_2.length c0_2, .slice A0_3 l0_3.length c0_3] 42 (0, 0))) := ⟨by rw [← hq_]; exact (by (with_reducible repeat (first | refine blk_drewN ?_ _ | refine blk_drew ?_ | refine blk_alloc ?_ _)); exact BK433.out)⟩; have n7_ : Aside0 (w36.heap[gb454]? = some (.cells #[.int .i64 t446, .int .i64 t447, .slice Ao34 t448.length co34, .slice Ao35 t451.length co35] 46 (0, 0))) := ⟨by rw [← hq_]; exact (by (with_reducible repeat (first | refine blk_drewN ?_ _ | refine blk_drew ?_ | refine blk_alloc ?_ _)); exact BK454.out)⟩; have n8_ : Aside0 (Below w.heap.size w w36) := ⟨by rw [← hq_]; exact (by repeat (first | (with_reducible first | exact HB.out | apply below_alloc | apply pw_below_drewN | apply below_drew1 | refine below_set ?_ GE433.out | refine below_set ?_ GE454.out) | exact HB.out))⟩; clear HO439 HO442 HO445 HO450 HO453 HO457 BK433 BK454 HB hq_; have HO439 := n0_; have HO442 := n1_; have HO445 := n2_; have HO450 := n3_; have HO453 := n4_; have HO457 := n5_; have BK433 := n6_; have BK454 := n7_; have HB := n8_; clear n0_ n1_ n2_ n3_ n4_ n5_ n6_ n7_ n8_))
     have n0_ := Aside0.mk (Kd.R_drew HO439.out)
     have n1_ := Aside0.mk (Kd.R_drew HO442.out)
     have n2_ := Aside0.mk (Kd.R_drew HO445.out)
     have n3_ := Aside0.mk (Kd.R_drew HO450.out)
     have n4_ := Aside0.mk (Kd.R_drew HO453.out)
     have n5_ := Aside0.mk (Kd.R_drew HO457.out)
     have n6_ := Aside0.mk (blk_drew BK433.out)
     have n7_ := Aside0.mk (blk_drew BK454.out)
     have n8_ := Aside0.mk (below_drew1 HB.out)
     clear HO439
     clear HO442
     clear HO445
     clear HO450
     clear HO453
     clear HO457
     clear BK433
     clear BK454
     clear HB
     have HO439 := n0_
     have HO442 := n1_
     have HO445 := n2_
     have HO450 := n3_
     have HO453 := n4_
     have HO457 := n5_
     have BK433 := n6_
     have BK454 := n7_
     have HB := n8_
     clear n0_ n1_ n2_ n3_ n4_ n5_ n6_ n7_ n8_
     refine start_ (n := 5) (S := fun w' => w'.cell? ⟨gb454, 0, none⟩ = some (.int .i64 t446) ∧ w'.cell? ⟨gb454, 1, none⟩ = some (.int .i64 t447) ∧ w'.cell? ⟨gb454, 2, none⟩ = some (.slice Ao34 t448.length co34) ∧ w'.cell? ⟨gb454, 3, none⟩ = some (.slice Ao35 t451.length co35) ∧ w'.cell? ⟨gb433, 0, none⟩ = some (.int .i64 a0_0) ∧ w'.cell? ⟨gb433, 1, none⟩ = some (.int .i64 a0_1) ∧ w'.cell? ⟨gb433, 2, none⟩ = some (.slice A0_2 l0_2.length c0_2) ∧ w'.cell? ⟨gb433, 3, none⟩ = some (.slice A0_3 l0_3.length c0_3)) (ds := []) (.replicate 5 false) (by kernel_rfl) rfl rfl ⟨(blk_cell BK454.out 0).trans rfl, (blk_cell BK454.out 1).trans rfl, (blk_cell BK454.out 2).trans rfl, (blk_cell BK454.out 3).trans rfl, (blk_cell BK433.out 0).trans rfl, (blk_cell BK433.out 1).trans rfl, (blk_cell BK433.out 2).trans rfl, (blk_cell BK433.out 3).trans rfl⟩ (fun hHeld => ?_)
     generalize w36.drew = w39 at HO439 HO442 HO445 HO450 HO453 HO457 BK433 BK454 HB hHeld ⊢
     refine tk_ 0 (some 34) (bv 5 1) rfl rfl (by kernel_rfl) (fun _ _ _ h => h) (by rfl) hHeld (fun w' ⟨s0, s1, s2, s3, s4, s5, s6, s7⟩ => by go_simp; with_reducible rfl) (by simp only [Act.put, eA_, e0_, eS_, i64_w, i32_w]; rfl) ?_
     refine tk_ 1 (some 35) (bv 5 3) rfl rfl (by kernel_rfl) (fun _ _ _ h => h) (by rfl) hHeld (fun w' ⟨s0, s1, s2, s3, s4, s5, s6, s7⟩ => by go_simp; with_reducible rfl) (by simp only [Act.put, eA_, e0_, eS_, i64_w, i32_w]; rfl) ?_
     refine one_ (i := 2) (N := some 36) (bv 5 7) rfl rfl (by kernel_rfl) (by decide) (fun K hK => ?_)
     refine goes_ Try.func29 (by kernel_rfl) rfl #[.agg #[.int .i64 a0_0, .int .i64 a0_1, .slice A0_2 l0_2.length c0_2, .slice A0_3 l0_3.length c0_3]] (by rfl) rfl rfl (by (try simp only [List.map_toArray, List.map_cons, List.map_nil]); first | done | rfl | (simp only [List.length_drop, List.length_take]; rfl)) ?_
     with_reducible refine (laws_toPlan.calls k a0_0 a0_1 _ _ l0_2 _ _ l0_3 t459 t460 t461 t464 _ ?side1 ?side2 ?side3 ?side4 A16.out).mono ?_
     (case side1 => repeat (first | exact (Kd.C_below HR0_2.out HB.out) | (with_reducible refine Kd.C_alloc ?_ _) | (with_reducible refine Kd.C_drewN ?_ _) | (with_reducible refine Kd.C_drew ?_)))
     (case side2 => exact HC0_2.out)
     (case side3 => repeat (first | exact (Kd.C_below HR0_3.out HB.out) | (with_reducible refine Kd.C_alloc ?_ _) | (with_reducible refine Kd.C_drewN ?_ _) | (with_reducible refine Kd.C_drew ?_)))
     (case side4 => exact HC0_3.out)
     rintro e w40 ⟨v462, v465, rfl, ho0, ho1, hb⟩
     refine ⟨_, rfl, ?_⟩
     have n0_ := Aside0.mk (Kd.R_mono (Kd.R_told (Kd.R_told (Kd.R_old (by (with_reducible repeat (first | apply Kd.R_alloc | apply Kd.R_drewN | apply Kd.R_drew)); exact HO439.out) hb) (Kd.R_base ho0)) (Kd.R_base ho1)) (fun _ h_ => h_.1))
     have n1_ := Aside0.mk (Kd.R_mono (Kd.R_told (Kd.R_told (Kd.R_old (by (with_reducible repeat (first | apply Kd.R_alloc | apply Kd.R_drewN | apply Kd.R_drew)); exact HO442.out) hb) (Kd.R_base ho0)) (Kd.R_base ho1)) (fun _ h_ => h_.1))
     have n2_ := Aside0.mk (Kd.R_below (by (with_reducible repeat (first | apply Kd.R_alloc | apply Kd.R_drewN | apply Kd.R_drew)); exact HO445.out) hb)
     have n3_ := Aside0.mk (Kd.R_mono (Kd.R_told (Kd.R_told (Kd.R_old (by (with_reducible repeat (first | apply Kd.R_alloc | apply Kd.R_drewN | apply Kd.R_drew)); exact HO450.out) hb) (Kd.R_base ho0)) (Kd.R_base ho1)) (fun _ h_ => h_.1))
     have n4_ := Aside0.mk (Kd.R_mono (Kd.R_told (Kd.R_told (Kd.R_old (by (with_reducible repeat (first | apply Kd.R_alloc | apply Kd.R_drewN | apply Kd.R_drew)); exact HO453.out) hb) (Kd.R_base ho0)) (Kd.R_base ho1)) (fun _ h_ => h_.1))
     have n5_ := Aside0.mk (Kd.R_below (by (with_reducible repeat (first | apply Kd.R_alloc | apply Kd.R_drewN | apply Kd.R_drew)); exact HO457.out) hb)
     have n6_ := Aside0.mk (Kd.R_lower (Kd.R_new' (Kd.R_new' (Kd.R_new' (Kd.R_new' ho0 (Kd.R_lt (by (with_reducible repeat (first | apply Kd.R_alloc | apply Kd.R_drewN | apply Kd.R_drew)); exact HO439.out))) (Kd.R_lt (by (with_reducible repeat (first | apply Kd.R_alloc | apply Kd.R_drewN | apply Kd.R_drew)); exact HO442.out))) (Kd.R_lt (by (with_reducible repeat (first | apply Kd.R_alloc | apply Kd.R_drewN | apply Kd.R_drew)); exact HO450.out))) (Kd.R_lt (by (with_reducible repeat (first | apply Kd.R_alloc | apply Kd.R_drewN | apply Kd.R_drew)); exact HO453.out))) (below_size (by repeat (first | (with_reducible first | exact HB.out | apply below_alloc | apply pw_below_drewN | apply below_drew1 | refine below_set ?_ GE433.out | refine below_set ?_ GE454.out) | exact HB.out))))
     have n7_ := Aside0.mk (Kd.R_lower (Kd.R_new' (Kd.R_new' (Kd.R_new' (Kd.R_new' ho1 (Kd.R_lt (by (with_reducible repeat (first | apply Kd.R_alloc | apply Kd.R_drewN | apply Kd.R_drew)); exact HO439.out))) (Kd.R_lt (by (with_reducible repeat (first | apply Kd.R_alloc | apply Kd.R_drewN | apply Kd.R_drew)); exact HO442.out))) (Kd.R_lt (by (with_reducible repeat (first | apply Kd.R_alloc | apply Kd.R_drewN | apply Kd.R_drew)); exact HO450.out))) (Kd.R_lt (by (with_reducible repeat (first | apply Kd.R_alloc | apply Kd.R_drewN | apply Kd.R_drew)); exact HO453.out))) (below_size (by repeat (first | (with_reducible first | exact HB.out | apply below_alloc | apply pw_below_drewN | apply below_drew1 | refine below_set ?_ GE433.out | refine below_set ?_ GE454.out) | exact HB.out))))
     have n8_ := Aside0.mk (blk_below (g := gb433) (o := .cells #[.int .i64 a0_0, .int .i64 a0_1, .slice A0_2 l0_2.length c0_2, .slice A0_3 l0_3.length c0_3] 42 (0, 0)) (by (with_reducible repeat (first | refine blk_drewN ?_ _ | refine blk_drew ?_ | refine blk_alloc ?_ _)); exact BK433.out) hb)
     have n9_ := Aside0.mk (blk_below (g := gb454) (o := .cells #[.int .i64 t446, .int .i64 t447, .slice Ao34 t448.length co34, .slice Ao35 t451.length co35] 46 (0, 0)) (by (with_reducible repeat (first | refine blk_drewN ?_ _ | refine blk_drew ?_ | refine blk_alloc ?_ _)); exact BK454.out) hb)
     have n10_ := Aside0.mk (below_step (by repeat (first | (with_reducible first | exact HB.out | apply below_alloc | apply pw_below_drewN | apply below_drew1 | refine below_set ?_ GE433.out | refine below_set ?_ GE454.out) | exact HB.out)) hb)
     clear HO439
     clear HO442
     clear HO445
     clear HO450
     clear HO453
     clear HO457
     clear BK433
     clear BK454
     clear HB
     have HO439 := n0_
     have HO442 := n1_
     have HO445 := n2_
     have HO450 := n3_
     have HO453 := n4_
     have HO457 := n5_
     have HO463 := n6_
     have HO466 := n7_
     have BK433 := n8_
     have BK454 := n9_
     have HB := n10_
     clear n0_ n1_ n2_ n3_ n4_ n5_ n6_ n7_ n8_ n9_ n10_
     (try clear hb)
     (try clear hb2)
     (try clear hk)
     (try clear hi)
     (try clear ho0)
     (try clear ho1)
     obtain ⟨Ao41, co41, eo41⟩ := Kd.R_slice HO463.out
     (first | subst eo41 | (injection eo41 with f1_ f2_ f3_; have f4_ := f1_.symm; have f5_ := f3_.symm; clear f1_ f2_ f3_; subst f4_; subst f5_))
     obtain ⟨Ao42, co42, eo42⟩ := Kd.R_slice HO466.out
     (first | subst eo42 | (injection eo42 with f1_ f2_ f3_; have f4_ := f1_.symm; have f5_ := f3_.symm; clear f1_ f2_ f3_; subst f4_; subst f5_))
     refine hK.out _ _ ⟨(blk_cell BK454.out 0).trans rfl, (blk_cell BK454.out 1).trans rfl, (blk_cell BK454.out 2).trans rfl, (blk_cell BK454.out 3).trans rfl, (blk_cell BK433.out 0).trans rfl, (blk_cell BK433.out 1).trans rfl, (blk_cell BK433.out 2).trans rfl, (blk_cell BK433.out 3).trans rfl⟩ (fun hHeld => ?_)
     clear hK K
     refine norm_ (a' := ?_) ?_ ?_
     rotate_left
     ·show Act.put _ (some 36) _ = _
      simp only [Act.put, eA_, e0_, eS_, i64_w, i32_w]
      rfl
     refine one_ (i := 3) (N := some 37) (bv 5 15) rfl rfl (by kernel_rfl) (by decide) (fun K hK => ?_)
     refine goes_ Try.func32 (by kernel_rfl) rfl #[.agg #[.int .i64 t446, .int .i64 t447, .slice Ao34 t448.length co34, .slice Ao35 t451.length co35], .agg #[.int .i64 t459, .int .i64 t460, .slice Ao41 t461.length co41, .slice Ao42 t464.length co42]] (by rfl) rfl rfl (by (try simp only [List.map_toArray, List.map_cons, List.map_nil]); first | done | rfl | (simp only [List.length_drop, List.length_take]; rfl)) ?_
     with_reducible refine (laws_eqPlan.calls k t446 t447 _ _ t448 _ _ t451 t459 t460 _ _ t461 _ _ t464 true _ ?side1 ?side2 ?side3 ?side4 ?side5 ?side6 ?side7 ?side8 A17.out).mono ?_
     (case side1 => repeat (first | exact (Kd.R_reads' HO450.out).2.2 | (with_reducible refine Kd.C_alloc ?_ _) | (with_reducible refine Kd.C_drewN ?_ _) | (with_reducible refine Kd.C_drew ?_)))
     (case side2 => exact (Kd.R_reads' HO450.out).2.1)
     (case side3 => repeat (first | exact (Kd.R_reads' HO453.out).2.2 | (with_reducible refine Kd.C_alloc ?_ _) | (with_reducible refine Kd.C_drewN ?_ _) | (with_reducible refine Kd.C_drew ?_)))
     (case side4 => exact (Kd.R_reads' HO453.out).2.1)
     (case side5 => repeat (first | exact (Kd.R_reads' HO463.out).2.2 | (with_reducible refine Kd.C_alloc ?_ _) | (with_reducible refine Kd.C_drewN ?_ _) | (with_reducible refine Kd.C_drew ?_)))
     (case side6 => exact (Kd.R_reads' HO463.out).2.1)
     (case side7 => repeat (first | exact (Kd.R_reads' HO466.out).2.2 | (with_reducible refine Kd.C_alloc ?_ _) | (with_reducible refine Kd.C_drewN ?_ _) | (with_reducible refine Kd.C_drew ?_)))
     (case side8 => exact (Kd.R_reads' HO466.out).2.1)
     rintro e w43 ⟨rfl, hb⟩
     refine ⟨_, rfl, ?_⟩
     have n0_ := Aside0.mk (Kd.R_below (by (with_reducible repeat (first | apply Kd.R_alloc | apply Kd.R_drewN | apply Kd.R_drew)); exact HO439.out) hb)
     have n1_ := Aside0.mk (Kd.R_below (by (with_reducible repeat (first | apply Kd.R_alloc | apply Kd.R_drewN | apply Kd.R_drew)); exact HO442.out) hb)
     have n2_ := Aside0.mk (Kd.R_below (by (with_reducible repeat (first | apply Kd.R_alloc | apply Kd.R_drewN | apply Kd.R_drew)); exact HO445.out) hb)
     have n3_ := Aside0.mk (Kd.R_below (by (with_reducible repeat (first | apply Kd.R_alloc | apply Kd.R_drewN | apply Kd.R_drew)); exact HO450.out) hb)
     have n4_ := Aside0.mk (Kd.R_below (by (with_reducible repeat (first | apply Kd.R_alloc | apply Kd.R_drewN | apply Kd.R_drew)); exact HO453.out) hb)
     have n5_ := Aside0.mk (Kd.R_below (by (with_reducible repeat (first | apply Kd.R_alloc | apply Kd.R_drewN | apply Kd.R_drew)); exact HO457.out) hb)
     have n6_ := Aside0.mk (Kd.R_below (by (with_reducible repeat (first | apply Kd.R_alloc | apply Kd.R_drewN | apply Kd.R_drew)); exact HO463.out) hb)
     have n7_ := Aside0.mk (Kd.R_below (by (with_reducible repeat (first | apply Kd.R_alloc | apply Kd.R_drewN | apply Kd.R_drew)); exact HO466.out) hb)
     have n8_ := Aside0.mk (blk_below (g := gb433) (o := .cells #[.int .i64 a0_0, .int .i64 a0_1, .slice A0_2 l0_2.length c0_2, .slice A0_3 l0_3.length c0_3] 42 (0, 0)) (by (with_reducible repeat (first | refine blk_drewN ?_ _ | refine blk_drew ?_ | refine blk_alloc ?_ _)); exact BK433.out) hb)
     have n9_ := Aside0.mk (blk_below (g := gb454) (o := .cells #[.int .i64 t446, .int .i64 t447, .slice Ao34 t448.length co34, .slice Ao35 t451.length co35] 46 (0, 0)) (by (with_reducible repeat (first | refine blk_drewN ?_ _ | refine blk_drew ?_ | refine blk_alloc ?_ _)); exact BK454.out) hb)
     have n10_ := Aside0.mk (below_step (by repeat (first | (with_reducible first | exact HB.out | apply below_alloc | apply pw_below_drewN | apply below_drew1 | refine below_set ?_ GE433.out | refine below_set ?_ GE454.out) | exact HB.out)) hb)
     clear HO439
     clear HO442
     clear HO445
     clear HO450
     clear HO453
     clear HO457
     clear HO463
     clear HO466
     clear BK433
     clear BK454
     clear HB
     have HO439 := n0_
     have HO442 := n1_
     have HO445 := n2_
     have HO450 := n3_
     have HO453 := n4_
     have HO457 := n5_
     have HO463 := n6_
     have HO466 := n7_
     have BK433 := n8_
     have BK454 := n9_
     have HB := n10_
     clear n0_ n1_ n2_ n3_ n4_ n5_ n6_ n7_ n8_ n9_ n10_
     (try clear hb)
     (try clear hb2)
     (try clear hk)
     (try clear hi)
     refine hK.out _ _ ⟨(blk_cell BK454.out 0).trans rfl, (blk_cell BK454.out 1).trans rfl, (blk_cell BK454.out 2).trans rfl, (blk_cell BK454.out 3).trans rfl, (blk_cell BK433.out 0).trans rfl, (blk_cell BK433.out 1).trans rfl, (blk_cell BK433.out 2).trans rfl, (blk_cell BK433.out 3).trans rfl⟩ (fun hHeld => ?_)
     clear hK K
     refine norm_ (a' := ?_) ?_ ?_
     rotate_left
     ·show Act.put _ (some 37) _ = _
      simp only [Act.put, eA_, e0_, eS_, i64_w, i32_w]
      rfl
     refine pu_ 4 (some 38) (bv 5 31) rfl rfl (by kernel_rfl) (fun _ _ _ h => h) (by rfl) (fun w' => by go_simp; with_reducible rfl) (by simp only [Act.put, eA_, e0_, eS_, i64_w, i32_w]; rfl) ?_
     refine done_ (by kernel_rfl) ?_
     have hcz44_0 : w43.cell? ⟨gb454, 0, none⟩ = some (.int .i64 t446) := (blk_cell BK454.out 0).trans rfl
     have hcz44_1 : w43.cell? ⟨gb454, 1, none⟩ = some (.int .i64 t447) := (blk_cell BK454.out 1).trans rfl
     have hcz44_2 : w43.cell? ⟨gb454, 2, none⟩ = some (.slice Ao34 t448.length co34) := (blk_cell BK454.out 2).trans rfl
     have hcz44_3 : w43.cell? ⟨gb454, 3, none⟩ = some (.slice Ao35 t451.length co35) := (blk_cell BK454.out 3).trans rfl
     have hfz44_0 := blk_frozen BK454.out 0
     have hfz44_1 := blk_frozen BK454.out 1
     have hfz44_2 := blk_frozen BK454.out 2
     have hfz44_3 := blk_frozen BK454.out 3
     go_upto_region 16 with (first | ((with_reducible refine gate_callee (f := 33) rfl ?_); refine goesL_ (some 41) rfl rfl Try.func33 (by kernel_rfl) rfl #[.agg #[.int .i64 t446, .int .i64 t447, .slice Ao34 t448.length co34, .slice Ao35 t451.length co35], .int .i64 1] rfl (by (try simp only [List.map_toArray, List.map_cons, List.map_nil]); first | done | rfl | (simp only [List.length_drop, List.length_take]; rfl)) ?_; (with_reducible refine (laws_markPlan.calls k t446 t447 (fun k_ => some k_ = (.slice Ao34 t448.length co34 : Value).ownBlock) (.slice Ao34 t448.length co34) t448 (fun k_ => some k_ = (.slice Ao35 t451.length co35 : Value).ownBlock) (.slice Ao35 t451.length co35) t451 1 t468 t469 t470 w _ ?side1 ?side2 ?side3 ?side4 ?side5 A19.out).mono ?_); (case side1 => repeat (first | (with_reducible first | exact HB.out | apply below_alloc | apply pw_below_drewN | apply below_drew1 | refine below_set ?_ GE433.out | refine below_set ?_ GE454.out) | exact HB.out)); (case side2 => exact Kd.R_tight rfl HO450.out); (case side3 => exact fun k_ e_ => pj_ (HO450.out.1 k_ e_.symm)); (case side4 => exact Kd.R_tight rfl HO453.out); (case side5 => exact fun k_ e_ => pj_ (HO453.out.1 k_ e_.symm)); rintro e w45 ⟨rfl, hy0, hy1, hb, hkp⟩; refine ⟨_, rfl, ?_⟩; have n0_ := Aside0.mk (blk_kept (by (with_reducible repeat (first | refine blk_drewN ?_ _ | refine blk_drew ?_ | refine blk_alloc ?_ _)); exact BK433.out) hkp (fun hs_ => Or.elim hs_ (fun e_ => (fun e_ => (Kd.R_ne HO450.out BK433.out (by decide)) e_) e_) (fun e_ => (fun e_ => (Kd.R_ne HO453.out BK433.out (by decide)) e_) e_))); have n1_ := Aside0.mk (Kd.R_mono (ok' := fun k_ => some k_ ≠ (.slice Ao27 t440.length co27 : Value).ownBlock ∧ some k_ ≠ (.slice Ao34 t448.length co34 : Value).ownBlock ∧ some k_ ≠ (.slice Ao35 t451.length co35 : Value).ownBlock ∧ some k_ ≠ (.slice Ao41 t461.length co41 : Value).ownBlock ∧ some k_ ≠ (.slice Ao42 t464.length co42 : Value).ownBlock) (Kd.R_keptB (HO439.out) hkp (fun k_ hk_ hs_ => Or.elim hs_ (fun e_ => absurd e_ (pj_ hk_)) (fun e_ => absurd e_ (pj_ hk_)))) (fun k_ hk_ => ⟨pj_ hk_, pj_ hk_, pj_ hk_, pj_ hk_, pj_ hk_⟩)); have n2_ := Aside0.mk (Kd.R_mono (ok' := fun k_ => some k_ ≠ (.slice Ao26 t437.length co26 : Value).ownBlock ∧ some k_ ≠ (.slice Ao34 t448.length co34 : Value).ownBlock ∧ some k_ ≠ (.slice Ao35 t451.length co35 : Value).ownBlock ∧ some k_ ≠ (.slice Ao41 t461.length co41 : Value).ownBlock ∧ some k_ ≠ (.slice Ao42 t464.length co42 : Value).ownBlock) (Kd.R_keptB (HO442.out) hkp (fun k_ hk_ hs_ => Or.elim hs_ (fun e_ => absurd e_ (pj_ hk_)) (fun e_ => absurd e_ (pj_ hk_)))) (fun k_ hk_ => ⟨pj_ hk_, pj_ hk_, pj_ hk_, pj_ hk_, pj_ hk_⟩)); have n3_ := Aside0.mk (Kd.R_mono (ok' := fun k_ => some k_ ≠ (.slice Ao37 t455.length co37 : Value).ownBlock) (Kd.R_keptB ((Kd.R_apart' (Kd.R_apart' HO445.out (Kd.R_typed HO450.out) (by decide)) (Kd.R_typed HO453.out) (by decide))) hkp (fun k_ hk_ hs_ => Or.elim hs_ (fun e_ => absurd e_ (pj_ hk_)) (fun e_ => absurd e_ (pj_ hk_)))) (fun k_ hk_ => pj_ hk_)); have n4_ := Aside0.mk (Kd.R_reok rfl hy0 (fun k_ e_ => HO450.out.1 k_ e_)); have n5_ := Aside0.mk (Kd.R_reok rfl hy1 (fun k_ e_ => HO453.out.1 k_ e_)); have n6_ := Aside0.mk (blk_kept (by (with_reducible repeat (first | refine blk_drewN ?_ _ | refine blk_drew ?_ | refine blk_alloc ?_ _)); exact BK454.out) hkp (fun hs_ => Or.elim hs_ (fun e_ => (fun e_ => (Kd.R_ne HO450.out BK454.out (by decide)) e_) e_) (fun e_ => (fun e_ => (Kd.R_ne HO453.out BK454.out (by decide)) e_) e_))); have n7_ := Aside0.mk (Kd.R_mono (ok' := fun k_ => some k_ ≠ (.slice Ao38 t443.length co38 : Value).ownBlock) (Kd.R_keptB ((Kd.R_apart' (Kd.R_apart' HO457.out (Kd.R_typed HO450.out) (by decide)) (Kd.R_typed HO453.out) (by decide))) hkp (fun k_ hk_ hs_ => Or.elim hs_ (fun e_ => absurd e_ (pj_ hk_)) (fun e_ => absurd e_ (pj_ hk_)))) (fun k_ hk_ => pj_ hk_)); have n8_ := Aside0.mk (Kd.R_mono (ok' := fun k_ => some k_ ≠ (.slice Ao26 t437.length co26 : Value).ownBlock ∧ some k_ ≠ (.slice Ao27 t440.length co27 : Value).ownBlock ∧ some k_ ≠ (.slice Ao34 t448.length co34 : Value).ownBlock ∧ some k_ ≠ (.slice Ao35 t451.length co35 : Value).ownBlock ∧ some k_ ≠ (.slice Ao42 t464.length co42 : Value).ownBlock) (Kd.R_keptB (HO463.out) hkp (fun k_ hk_ hs_ => Or.elim hs_ (fun e_ => absurd e_ (pj_ hk_)) (fun e_ => absurd e_ (pj_ hk_)))) (fun k_ hk_ => ⟨pj_ hk_, pj_ hk_, pj_ hk_, pj_ hk_, pj_ hk_⟩)); have n9_ := Aside0.mk (Kd.R_mono (ok' := fun k_ => some k_ ≠ (.slice Ao26 t437.length co26 : Value).ownBlock ∧ some k_ ≠ (.slice Ao27 t440.length co27 : Value).ownBlock ∧ some k_ ≠ (.slice Ao34 t448.length co34 : Value).ownBlock ∧ some k_ ≠ (.slice Ao35 t451.length co35 : Value).ownBlock ∧ some k_ ≠ (.slice Ao41 t461.length co41 : Value).ownBlock) (Kd.R_keptB (HO466.out) hkp (fun k_ hk_ hs_ => Or.elim hs_ (fun e_ => absurd e_ (pj_ hk_)) (fun e_ => absurd e_ (pj_ hk_)))) (fun k_ hk_ => ⟨pj_ hk_, pj_ hk_, pj_ hk_, pj_ hk_, pj_ hk_⟩)); have n10_ := Aside0.mk (hb); clear BK433; clear HO439; clear HO442; clear HO445; clear HO450; clear HO453; clear BK454; clear HO457; clear HO463; clear HO466; clear HB; have BK433 := n0_; have HO439 := n1_; have HO442 := n2_; have HO445 := n3_; have HO450 := n4_; have HO453 := n5_; have BK454 := n6_; have HO457 := n7_; have HO463 := n8_; have HO466 := n9_; have HB := n10_; clear n0_ n1_ n2_ n3_ n4_ n5_ n6_ n7_ n8_ n9_ n10_; (try clear hb); (try clear hkp); (try clear hy0); (try clear hy1)))
     (try simp only [Act.put, eA_, e0_, eS_])
     go_cut [49] (fun v49 wc => ∃ (kq : Nat) (x49_19 : Bool), v49 = .bool x49_19 ∧ Aside0 (laws_FnExactPlanCut.j0 kq a1 t443 t455 x49_19 a0_0 a0_1 l0_2 l0_3 = some true) ∧ Aside0 (kq ≤ k) ∧ Aside0 (Kd.R Kd.string 9 wc w.heap.size (fun k_ => some k_ ≠ ((.slice Ao37 t455.length co37) : Value).ownBlock) (.slice Ao38 t443.length co38) t443) ∧ Aside0 (Kd.R Kd.string 9 wc w.heap.size (fun k_ => some k_ ≠ ((.slice Ao38 t443.length co38) : Value).ownBlock) (.slice Ao37 t455.length co37) t455) ∧ Aside0 (Kd.R (Kd.int .i64) 3 wc w.heap.size (fun k_ => some k_ ≠ ((.slice Ao35 t451.length co35) : Value).ownBlock) (.slice Ao34 t448.length co34) t469) ∧ Aside0 (Kd.R (Kd.int .i64) 3 wc w.heap.size (fun k_ => some k_ ≠ ((.slice Ao34 t448.length co34) : Value).ownBlock) (.slice Ao35 t451.length co35) t470) ∧ Aside0 (wc.heap[gb433]? = some (.cells #[.int .i64 a0_0, .int .i64 a0_1, (.slice A0_2 l0_2.length c0_2), (.slice A0_3 l0_3.length c0_3)] 42 (0, 0))) ∧ Aside0 (wc.heap[gb454]? = some (.cells #[.int .i64 t446, .int .i64 t447, (.slice Ao34 t448.length co34), (.slice Ao35 t451.length co35)] 46 (0, 0))) ∧ Aside0 (Below w.heap.size w wc))
     case first =>
      have H := HC20.out
      clear HC20
      by_cases c46 : t468 < 0
      ·rw [if_pos c46] at H
       have c46b0 : decide (t468 < 0) = true := decide_eq_true c46
       clear c46
       (first | rw [c46b0] | (simp only [i64_w, i32_w]; rw [c46b0]) | skip)
       have H' := Aside0.mk H
       clear H
       go_wp2
       all_goals
        go_meet
        case rel => exact ⟨_, (true), (by first | rfl | (simp; done) | (simp [*]; done) | (simp [wrap64]; done)), H', ⟨by first | omega | exact Nat.le_refl _⟩, ⟨by (with_reducible repeat (first | apply Kd.R_alloc | apply Kd.R_drewN | apply Kd.R_drew)); exact HO445.out⟩, ⟨by (with_reducible repeat (first | apply Kd.R_alloc | apply Kd.R_drewN | apply Kd.R_drew)); exact HO457.out⟩, ⟨by (with_reducible repeat (first | apply Kd.R_alloc | apply Kd.R_drewN | apply Kd.R_drew)); exact Kd.R_mono HO450.out (fun _ hk => pj_ hk)⟩, ⟨by (with_reducible repeat (first | apply Kd.R_alloc | apply Kd.R_drewN | apply Kd.R_drew)); exact Kd.R_mono HO453.out (fun _ hk => pj_ hk)⟩, ⟨by (with_reducible repeat (first | refine blk_drewN ?_ _ | refine blk_drew ?_ | refine blk_alloc ?_ _)); exact BK433.out⟩, ⟨by (with_reducible repeat (first | refine blk_drewN ?_ _ | refine blk_drew ?_ | refine blk_alloc ?_ _)); exact BK454.out⟩, ⟨by repeat (first | (with_reducible first | exact HB.out | apply below_alloc | apply pw_below_drewN | apply below_drew1 | refine below_set ?_ GE433.out | refine below_set ?_ GE454.out) | exact HB.out)⟩⟩
      ·rw [if_neg c46] at H
       have c46b0 : decide (t468 < 0) = false := decide_eq_false c46
       clear c46
       (first | rw [c46b0] | (simp only [i64_w, i32_w]; rw [c46b0]) | skip)
       replace H := Option.bind_eq_some_iff.mp H
       obtain ⟨t471, A470, H⟩ := H
       replace H : (laws_FnExactPlanCut.j0 k a1 t443 t455 (!t471) a0_0 a0_1 l0_2 l0_3) = some true := H
       have A47 := Aside0.mk A470
       clear A470
       have H' := Aside0.mk H
       clear H
       go_wp2_with (first | (go_at_call 31; (with_reducible refine (laws_eqStringS.calls k _ _ t455 _ _ t443 t471 _ ?side1 ?side2 ?side3 ?side4 A47.out).mono ?_); (case side1 => repeat (first | exact (Kd.R_reads' HO457.out).2.2 | (with_reducible refine Kd.C_alloc ?_ _) | (with_reducible refine Kd.C_drewN ?_ _) | (with_reducible refine Kd.C_drew ?_))); (case side2 => exact (Kd.R_reads' HO457.out).2.1); (case side3 => repeat (first | exact (Kd.R_reads' HO445.out).2.2 | (with_reducible refine Kd.C_alloc ?_ _) | (with_reducible refine Kd.C_drewN ?_ _) | (with_reducible refine Kd.C_drew ?_))); (case side4 => exact (Kd.R_reads' HO445.out).2.1); rintro e w' ⟨rfl, ⟨nd, rfl⟩⟩))
       all_goals
        go_meet
        case rel => exact ⟨_, (!t471), (by first | rfl | (simp; done) | (simp [*]; done) | (simp [wrap64]; done)), H', ⟨by first | omega | exact Nat.le_refl _⟩, ⟨by (with_reducible repeat (first | apply Kd.R_alloc | apply Kd.R_drewN | apply Kd.R_drew)); exact HO445.out⟩, ⟨by (with_reducible repeat (first | apply Kd.R_alloc | apply Kd.R_drewN | apply Kd.R_drew)); exact HO457.out⟩, ⟨by (with_reducible repeat (first | apply Kd.R_alloc | apply Kd.R_drewN | apply Kd.R_drew)); exact Kd.R_mono HO450.out (fun _ hk => pj_ hk)⟩, ⟨by (with_reducible repeat (first | apply Kd.R_alloc | apply Kd.R_drewN | apply Kd.R_drew)); exact Kd.R_mono HO453.out (fun _ hk => pj_ hk)⟩, ⟨by (with_reducible repeat (first | refine blk_drewN ?_ _ | refine blk_drew ?_ | refine blk_alloc ?_ _)); exact BK433.out⟩, ⟨by (with_reducible repeat (first | refine blk_drewN ?_ _ | refine blk_drew ?_ | refine blk_alloc ?_ _)); exact BK454.out⟩, ⟨by repeat (first | (with_reducible first | exact HB.out | apply below_alloc | apply pw_below_drewN | apply below_drew1 | refine below_set ?_ GE433.out | refine below_set ?_ GE454.out) | exact HB.out)⟩⟩
     case rest =>
      clear HC20
      try clear c1
      try clear c2
      try clear p2
      try clear c3
      try clear c3b0
      try clear c3b1
      try clear c4
      try clear c5
      try clear c6
      try clear c6b0
      try clear c15
      try clear c18
      try clear c27
      try clear c28
      try clear c29
      try clear c30
      try clear c31
      try clear c32
      try clear c33
      try clear c46
      try clear c46b0
      try clear hcz22_0
      try clear hcz22_1
      try clear hcz22_2
      try clear hcz22_3
      try clear hcz24_0
      try clear hcz24_1
      try clear hcz24_2
      try clear hcz24_3
      try clear hcz29_0
      try clear hcz29_1
      try clear hcz29_2
      try clear hcz29_3
      try clear hcz33_0
      try clear hcz33_1
      try clear hcz33_2
      try clear hcz33_3
      try clear hcz44_0
      try clear hcz44_1
      try clear hcz44_2
      try clear hcz44_3
      try clear hcz8_0
      try clear hcz8_1
      try clear hcz8_2
      try clear hcz8_3
      try clear hfz22_0
      try clear hfz22_1
      try clear hfz22_2
      try clear hfz22_3
      try clear hfz24_0
      try clear hfz24_1
      try clear hfz24_2
      try clear hfz24_3
      try clear hfz29_0
      try clear hfz29_1
      try clear hfz29_2
      try clear hfz29_3
      try clear hfz33_0
      try clear hfz33_1
      try clear hfz33_2
      try clear hfz33_3
      try clear hfz44_0
      try clear hfz44_1
      try clear hfz44_2
      try clear hfz44_3
      try clear hfz8_0
      try clear hfz8_1
      try clear hfz8_2
      try clear hfz8_3
      obtain ⟨kq, x49_19, rfl, HA, HJ19, HO_6, HO_8, HO_455002, HO_455003, BK433, BK454, HB⟩ := hcut
      have hl455002_19 := (Kd.R_reads' HO_455002.out).1
      rw [hl455002_19] at HO_455002
      (try simp only [hl455002_19])
      (try simp only [hl455002_19] at BK433)
      (try simp only [hl455002_19] at BK454)
      (try simp only [hl455002_19] at HO_6)
      (try simp only [hl455002_19] at HO_8)
      (try simp only [hl455002_19] at HO_455003)
      have hl455003_19 := (Kd.R_reads' HO_455003.out).1
      rw [hl455003_19] at HO_455003
      (try simp only [hl455003_19])
      (try simp only [hl455003_19] at BK433)
      (try simp only [hl455003_19] at BK454)
      (try simp only [hl455003_19] at HO_6)
      (try simp only [hl455003_19] at HO_8)
      (try simp only [hl455003_19] at HO_455002)
      cases kq with
      | zero => exact absurd HA.out (by simp [laws_FnExactPlanCut.j0])
      | succ kj19 =>
       have H := HA.out
       clear HA
       simp only [laws_FnExactPlanCut.j0] at H
       by_cases c48 : x49_19 = true
       ·subst c48
        have H1 : (some false) = some true := by rw [if_pos rfl] at H; exact H
        clear H
        have H := H1
        clear H1
        exact absurd H (by simp)
       ·replace c48 := Bool.eq_false_iff.mpr c48
        subst c48
        have H1 : ((laws_markStringS.f kj19 t455 1).bind fun bt472 => ((laws_heldStringS.f kj19 bt472.2 1).bind fun t474 => (if t474 < 0 then (some false) else (if t474 = bt472.1 then ((laws_toPlan.f kj19 a0_0 a0_1 l0_2 l0_3).bind fun bt475 => ((impl_PlanCut.f kj19 bt475.1 bt475.2.1 bt475.2.2.1 bt475.2.2.2 a1).bind fun t483 => ((laws_eqStringS.f kj19 t483 t443).bind fun t486 => (if t486 = true then ((laws_heldStringS.f kj19 bt472.2 1).bind fun t487 => (if t487 < 0 then (some false) else (if t487 = bt472.1 then (some true) else (some false)))) else (some false))))) else (some false))))) = some true := by rw [if_neg (show ¬ (false = true) by decide)] at H; exact H
        clear H
        have H := H1
        clear H1
        replace H := Option.bind_eq_some_iff.mp H
        obtain ⟨⟨t472, t473⟩, A490, H⟩ := H
        replace H : ((laws_heldStringS.f kj19 t473 1).bind fun t474 => (if t474 < 0 then (some false) else (if t474 = t472 then ((laws_toPlan.f kj19 a0_0 a0_1 l0_2 l0_3).bind fun bt475 => ((impl_PlanCut.f kj19 bt475.1 bt475.2.1 bt475.2.2.1 bt475.2.2.2 a1).bind fun t483 => ((laws_eqStringS.f kj19 t483 t443).bind fun t486 => (if t486 = true then ((laws_heldStringS.f kj19 t473 1).bind fun t487 => (if t487 < 0 then (some false) else (if t487 = t472 then (some true) else (some false)))) else (some false))))) else (some false)))) = some true := H
        have A49 := Aside0.mk A490
        clear A490
        replace H := Option.bind_eq_some_iff.mp H
        obtain ⟨t474, A500, H⟩ := H
        replace H : (if t474 < 0 then (some false) else (if t474 = t472 then ((laws_toPlan.f kj19 a0_0 a0_1 l0_2 l0_3).bind fun bt475 => ((impl_PlanCut.f kj19 bt475.1 bt475.2.1 bt475.2.2.1 bt475.2.2.2 a1).bind fun t483 => ((laws_eqStringS.f kj19 t483 t443).bind fun t486 => (if t486 = true then ((laws_heldStringS.f kj19 t473 1).bind fun t487 => (if t487 < 0 then (some false) else (if t487 = t472 then (some true) else (some false)))) else (some false))))) else (some false))) = some true := H
        have A50 := Aside0.mk A500
        clear A500
        by_cases c51 : t474 < 0
        ·rw [if_pos c51] at H
         have c51b0 : decide (t474 < 0) = true := decide_eq_true c51
         clear c51
         exact absurd H (by simp)
        ·rw [if_neg c51] at H
         have c51b0 : decide (t474 < 0) = false := decide_eq_false c51
         clear c51
         by_cases c52 : t474 = t472
         ·rw [if_pos c52] at H
          have c52b0 : (t474 == t472) = true := beq_iff_eq.mpr c52
          have c52b1 : (t474 != t472) = false := bne_eq_false_iff_eq.mpr c52
          clear c52
          replace H := Option.bind_eq_some_iff.mp H
          obtain ⟨⟨t475, t476, t477, t480⟩, A530, H⟩ := H
          replace H : ((impl_PlanCut.f kj19 t475 t476 t477 t480 a1).bind fun t483 => ((laws_eqStringS.f kj19 t483 t443).bind fun t486 => (if t486 = true then ((laws_heldStringS.f kj19 t473 1).bind fun t487 => (if t487 < 0 then (some false) else (if t487 = t472 then (some true) else (some false)))) else (some false)))) = some true := H
          have A53 := Aside0.mk A530
          clear A530
          replace H := Option.bind_eq_some_iff.mp H
          obtain ⟨t483, A540, H⟩ := H
          replace H : ((laws_eqStringS.f kj19 t483 t443).bind fun t486 => (if t486 = true then ((laws_heldStringS.f kj19 t473 1).bind fun t487 => (if t487 < 0 then (some false) else (if t487 = t472 then (some true) else (some false)))) else (some false))) = some true := H
          have A54 := Aside0.mk A540
          clear A540
          replace H := Option.bind_eq_some_iff.mp H
          obtain ⟨t486, A550, H⟩ := H
          replace H : (if t486 = true then ((laws_heldStringS.f kj19 t473 1).bind fun t487 => (if t487 < 0 then (some false) else (if t487 = t472 then (some true) else (some false)))) else (some false)) = some true := H
          have A55 := Aside0.mk A550
          clear A550
          by_cases c56 : t486 = true
          ·subst c56
           have H1 : ((laws_heldStringS.f kj19 t473 1).bind fun t487 => (if t487 < 0 then (some false) else (if t487 = t472 then (some true) else (some false)))) = some true := by rw [if_pos rfl] at H; exact H
           clear H
           have H := H1
           clear H1
           replace H := Option.bind_eq_some_iff.mp H
           obtain ⟨t487, A570, H⟩ := H
           replace H : (if t487 < 0 then (some false) else (if t487 = t472 then (some true) else (some false))) = some true := H
           have A57 := Aside0.mk A570
           clear A570
           by_cases c58 : t487 < 0
           ·rw [if_pos c58] at H
            have c58b0 : decide (t487 < 0) = true := decide_eq_true c58
            clear c58
            exact absurd H (by simp)
           ·rw [if_neg c58] at H
            have c58b0 : decide (t487 < 0) = false := decide_eq_false c58
            clear c58
            by_cases c59 : t487 = t472
            ·rw [if_pos c59] at H
             have c59b0 : (t487 == t472) = true := beq_iff_eq.mpr c59
             have c59b1 : (t487 != t472) = false := bne_eq_false_iff_eq.mpr c59
             clear c59
             clear H
             go_wp2_with (first | ((with_reducible refine gate_callee (f := 34) rfl ?_); refine goesL_ (some 52) rfl rfl Try.func34 (by kernel_rfl) rfl #[.slice Ao37 t455.length co37, .int .i64 1] rfl (by (try simp only [List.map_toArray, List.map_cons, List.map_nil]); first | done | rfl | (simp only [List.length_drop, List.length_take]; rfl)) ?_; (with_reducible refine (laws_markStringS.calls kj19 (fun k_ => some k_ = (.slice Ao37 t455.length co37 : Value).ownBlock) (.slice Ao37 t455.length co37) t455 1 t472 t473 w _ ?side1 ?side2 A49.out).mono ?_); (case side1 => repeat (first | (with_reducible first | exact HB.out | apply below_alloc | apply pw_below_drewN | apply below_drew1 | refine below_set ?_ GE433.out | refine below_set ?_ GE454.out) | exact HB.out)); (case side2 => exact Kd.R_tight rfl HO_8.out); rintro e w60 ⟨rfl, hy0, hb, hkp⟩; refine ⟨_, rfl, ?_⟩; have n0_ := Aside0.mk (Kd.R_mono (ok' := fun k_ => some k_ ≠ (.slice Ao37 t455.length co37 : Value).ownBlock) (Kd.R_keptB (HO_6.out) hkp (fun k_ hk_ hs_ => (hk_) hs_)) (fun k_ hk_ => pj_ hk_)); have n1_ := Aside0.mk (Kd.R_reok rfl hy0 (fun k_ e_ => HO_8.out.1 k_ e_)); have n2_ := Aside0.mk (Kd.R_mono (ok' := fun k_ => some k_ ≠ (.slice Ao35 t470.length co35 : Value).ownBlock) (Kd.R_keptB ((Kd.R_apart' HO_455002.out (Kd.R_typed HO_8.out) (by decide))) hkp (fun k_ hk_ hs_ => absurd hs_ (pj_ hk_))) (fun k_ hk_ => pj_ hk_)); have n3_ := Aside0.mk (Kd.R_mono (ok' := fun k_ => some k_ ≠ (.slice Ao34 t469.length co34 : Value).ownBlock) (Kd.R_keptB ((Kd.R_apart' HO_455003.out (Kd.R_typed HO_8.out) (by decide))) hkp (fun k_ hk_ hs_ => absurd hs_ (pj_ hk_))) (fun k_ hk_ => pj_ hk_)); have n4_ := Aside0.mk (blk_kept (by (with_reducible repeat (first | refine blk_drewN ?_ _ | refine blk_drew ?_ | refine blk_alloc ?_ _)); exact BK433.out) hkp (fun hs_ => (fun e_ => (Kd.R_ne HO_8.out BK433.out (by decide)) e_) hs_)); have n5_ := Aside0.mk (blk_kept (by (with_reducible repeat (first | refine blk_drewN ?_ _ | refine blk_drew ?_ | refine blk_alloc ?_ _)); exact BK454.out) hkp (fun hs_ => (fun e_ => (Kd.R_ne HO_8.out BK454.out (by decide)) e_) hs_)); have n6_ := Aside0.mk (hb); clear HO_6; clear HO_8; clear HO_455002; clear HO_455003; clear BK433; clear BK454; clear HB; have HO_6 := n0_; have HO_8 := n1_; have HO_455002 := n2_; have HO_455003 := n3_; have BK433 := n4_; have BK454 := n5_; have HB := n6_; clear n0_ n1_ n2_ n3_ n4_ n5_ n6_; (try clear hb); (try clear hkp); (try clear hy0)) | ((with_reducible refine gate_callee (f := 35) rfl ?_); refine goesL_ (some 55) rfl rfl Try.func35 (by kernel_rfl) rfl #[.slice Ao37 t473.length co37, .int .i64 1] rfl (by (try simp only [List.map_toArray, List.map_cons, List.map_nil]); first | done | (rw [show t473.length = t455.length from (Kd.R_reads' HO_8.out).1.symm] <;> rfl) | rfl | (simp only [List.length_drop, List.length_take]; rfl)) ?_; (with_reducible refine (laws_heldStringS.calls kj19 _ _ t473 1 t474 _ ?side1 ?side2 A50.out).mono ?_); (case side1 => repeat (first | exact (Kd.R_reads' HO_8.out).2.2 | (with_reducible refine Kd.C_alloc ?_ _) | (with_reducible refine Kd.C_drewN ?_ _) | (with_reducible refine Kd.C_drew ?_))); (case side2 => rw [show t473.length = t455.length from (Kd.R_reads' HO_8.out).1.symm]; exact (Kd.R_reads' HO_8.out).2.1); rintro e w61 ⟨rfl, hb⟩; refine ⟨_, rfl, ?_⟩; have n0_ := Aside0.mk (Kd.R_below (by (with_reducible repeat (first | apply Kd.R_alloc | apply Kd.R_drewN | apply Kd.R_drew)); exact HO_6.out) hb); have n1_ := Aside0.mk (Kd.R_below (by (with_reducible repeat (first | apply Kd.R_alloc | apply Kd.R_drewN | apply Kd.R_drew)); exact HO_8.out) hb); have n2_ := Aside0.mk (Kd.R_below (by (with_reducible repeat (first | apply Kd.R_alloc | apply Kd.R_drewN | apply Kd.R_drew)); exact HO_455002.out) hb); have n3_ := Aside0.mk (Kd.R_below (by (with_reducible repeat (first | apply Kd.R_alloc | apply Kd.R_drewN | apply Kd.R_drew)); exact HO_455003.out) hb); have n4_ := Aside0.mk (blk_below (g := gb433) (o := .cells #[.int .i64 a0_0, .int .i64 a0_1, .slice A0_2 l0_2.length c0_2, .slice A0_3 l0_3.length c0_3] 42 (0, 0)) (by (with_reducible repeat (first | refine blk_drewN ?_ _ | refine blk_drew ?_ | refine blk_alloc ?_ _)); exact BK433.out) hb); have n5_ := Aside0.mk (blk_below (g := gb454) (o := .cells #[.int .i64 t446, .int .i64 t447, .slice Ao34 t469.length co34, .slice Ao35 t470.length co35] 46 (0, 0)) (by (with_reducible repeat (first | refine blk_drewN ?_ _ | refine blk_drew ?_ | refine blk_alloc ?_ _)); exact BK454.out) hb); have n6_ := Aside0.mk (below_step (by repeat (first | (with_reducible first | exact HB.out | apply below_alloc | apply pw_below_drewN | apply below_drew1 | refine below_set ?_ GE433.out | refine below_set ?_ GE454.out) | exact HB.out)) hb); clear HO_6; clear HO_8; clear HO_455002; clear HO_455003; clear BK433; clear BK454; clear HB; have HO_6 := n0_; have HO_8 := n1_; have HO_455002 := n2_; have HO_455003 := n3_; have BK433 := n4_; have BK454 := n5_; have HB := n6_; clear n0_ n1_ n2_ n3_ n4_ n5_ n6_; (try clear hb); (try clear hb2); (try clear hk); (try clear hi); have hnb62 := NB433_454.out; have hnc62 := NB454_433.out; have hcz63_0 : w61.cell? ⟨gb433, 0, none⟩ = some (.int .i64 a0_0) := (blk_cell BK433.out 0).trans rfl; have hcz63_1 : w61.cell? ⟨gb433, 1, none⟩ = some (.int .i64 a0_1) := (blk_cell BK433.out 1).trans rfl; have hcz63_2 : w61.cell? ⟨gb433, 2, none⟩ = some (.slice A0_2 l0_2.length c0_2) := (blk_cell BK433.out 2).trans rfl; have hcz63_3 : w61.cell? ⟨gb433, 3, none⟩ = some (.slice A0_3 l0_3.length c0_3) := (blk_cell BK433.out 3).trans rfl; have hfz63_0 := blk_frozen BK433.out 0; have hfz63_1 := blk_frozen BK433.out 1; have hfz63_2 := blk_frozen BK433.out 2; have hfz63_3 := blk_frozen BK433.out 3) | ((with_reducible refine gate_callee (f := 29) rfl ?_); refine goesL_ (some 62) rfl rfl Try.func29 (by kernel_rfl) rfl #[.agg #[.int .i64 a0_0, .int .i64 a0_1, .slice A0_2 l0_2.length c0_2, .slice A0_3 l0_3.length c0_3]] rfl (by (try simp only [List.map_toArray, List.map_cons, List.map_nil]); first | done | rfl | (simp only [List.length_drop, List.length_take]; rfl)) ?_; (with_reducible refine (laws_toPlan.calls kj19 a0_0 a0_1 _ _ l0_2 _ _ l0_3 t475 t476 t477 t480 _ ?side1 ?side2 ?side3 ?side4 A53.out).mono ?_); (case side1 => repeat (first | exact (Kd.C_below HR0_2.out HB.out) | (with_reducible refine Kd.C_alloc ?_ _) | (with_reducible refine Kd.C_drewN ?_ _) | (with_reducible refine Kd.C_drew ?_))); (case side2 => exact HC0_2.out); (case side3 => repeat (first | exact (Kd.C_below HR0_3.out HB.out) | (with_reducible refine Kd.C_alloc ?_ _) | (with_reducible refine Kd.C_drewN ?_ _) | (with_reducible refine Kd.C_drew ?_))); (case side4 => exact HC0_3.out); rintro e w64 ⟨v478, v481, rfl, ho0, ho1, hb⟩; refine ⟨_, rfl, ?_⟩; have n0_ := Aside0.mk (Kd.R_below (by (with_reducible repeat (first | apply Kd.R_alloc | apply Kd.R_drewN | apply Kd.R_drew)); exact HO_6.out) hb); have n1_ := Aside0.mk (Kd.R_below (by (with_reducible repeat (first | apply Kd.R_alloc | apply Kd.R_drewN | apply Kd.R_drew)); exact HO_8.out) hb); have n2_ := Aside0.mk (Kd.R_mono (Kd.R_told (Kd.R_told (Kd.R_old (by (with_reducible repeat (first | apply Kd.R_alloc | apply Kd.R_drewN | apply Kd.R_drew)); exact HO_455002.out) hb) (Kd.R_base ho0)) (Kd.R_base ho1)) (fun _ h_ => h_.1)); have n3_ := Aside0.mk (Kd.R_mono (Kd.R_told (Kd.R_told (Kd.R_old (by (with_reducible repeat (first | apply Kd.R_alloc | apply Kd.R_drewN | apply Kd.R_drew)); exact HO_455003.out) hb) (Kd.R_base ho0)) (Kd.R_base ho1)) (fun _ h_ => h_.1)); have n4_ := Aside0.mk (Kd.R_lower (Kd.R_new' (Kd.R_new' ho0 (Kd.R_lt (by (with_reducible repeat (first | apply Kd.R_alloc | apply Kd.R_drewN | apply Kd.R_drew)); exact HO_455002.out))) (Kd.R_lt (by (with_reducible repeat (first | apply Kd.R_alloc | apply Kd.R_drewN | apply Kd.R_drew)); exact HO_455003.out))) (below_size (by repeat (first | (with_reducible first | exact HB.out | apply below_alloc | apply pw_below_drewN | apply below_drew1 | refine below_set ?_ GE433.out | refine below_set ?_ GE454.out) | exact HB.out)))); have n5_ := Aside0.mk (Kd.R_lower (Kd.R_new' (Kd.R_new' ho1 (Kd.R_lt (by (with_reducible repeat (first | apply Kd.R_alloc | apply Kd.R_drewN | apply Kd.R_drew)); exact HO_455002.out))) (Kd.R_lt (by (with_reducible repeat (first | apply Kd.R_alloc | apply Kd.R_drewN | apply Kd.R_drew)); exact HO_455003.out))) (below_size (by repeat (first | (with_reducible first | exact HB.out | apply below_alloc | apply pw_below_drewN | apply below_drew1 | refine below_set ?_ GE433.out | refine below_set ?_ GE454.out) | exact HB.out)))); have n6_ := Aside0.mk (blk_below (g := gb433) (o := .cells #[.int .i64 a0_0, .int .i64 a0_1, .slice A0_2 l0_2.length c0_2, .slice A0_3 l0_3.length c0_3] 42 (0, 0)) (by (with_reducible repeat (first | refine blk_drewN ?_ _ | refine blk_drew ?_ | refine blk_alloc ?_ _)); exact BK433.out) hb); have n7_ := Aside0.mk (blk_below (g := gb454) (o := .cells #[.int .i64 t446, .int .i64 t447, .slice Ao34 t469.length co34, .slice Ao35 t470.length co35] 46 (0, 0)) (by (with_reducible repeat (first | refine blk_drewN ?_ _ | refine blk_drew ?_ | refine blk_alloc ?_ _)); exact BK454.out) hb); have n8_ := Aside0.mk (below_step (by repeat (first | (with_reducible first | exact HB.out | apply below_alloc | apply pw_below_drewN | apply below_drew1 | refine below_set ?_ GE433.out | refine below_set ?_ GE454.out) | exact HB.out)) hb); clear HO_6; clear HO_8; clear HO_455002; clear HO_455003; clear BK433; clear BK454; clear HB; have HO_6 := n0_; have HO_8 := n1_; have HO_455002 := n2_; have HO_455003 := n3_; have HO479 := n4_; have HO482 := n5_; have BK433 := n6_; have BK454 := n7_; have HB := n8_; clear n0_ n1_ n2_ n3_ n4_ n5_ n6_ n7_ n8_; (try clear hb); (try clear hb2); (try clear hk); (try clear hi); (try clear ho0); (try clear ho1); obtain ⟨Ao65, co65, eo65⟩ := Kd.R_slice HO479.out; subst eo65; obtain ⟨Ao66, co66, eo66⟩ := Kd.R_slice HO482.out; subst eo66) | ((with_reducible refine gate_callee (f := 30) rfl ?_); refine goesL_ (some 64) rfl rfl Try.func30 (by kernel_rfl) rfl #[.agg #[.int .i64 t475, .int .i64 t476, .slice Ao65 t477.length co65, .slice Ao66 t480.length co66], .string a1] rfl (by (try simp only [List.map_toArray, List.map_cons, List.map_nil]); first | done | rfl | (simp only [List.length_drop, List.length_take]; rfl)) ?_; (with_reducible refine (impl_PlanCut.calls kj19 t475 t476 _ _ t477 _ _ t480 a1 t483 _ ?side1 ?side2 ?side3 ?side4 A54.out).mono ?_); (case side1 => repeat (first | exact (Kd.R_reads' HO479.out).2.2 | (with_reducible refine Kd.C_alloc ?_ _) | (with_reducible refine Kd.C_drewN ?_ _) | (with_reducible refine Kd.C_drew ?_))); (case side2 => exact (Kd.R_reads' HO479.out).2.1); (case side3 => repeat (first | exact (Kd.R_reads' HO482.out).2.2 | (with_reducible refine Kd.C_alloc ?_ _) | (with_reducible refine Kd.C_drewN ?_ _) | (with_reducible refine Kd.C_drew ?_))); (case side4 => exact (Kd.R_reads' HO482.out).2.1); rintro e w67 ⟨v484, rfl, ho0, hb⟩; refine ⟨_, rfl, ?_⟩; have n0_ := Aside0.mk (Kd.R_elder' (by (with_reducible repeat (first | apply Kd.R_alloc | apply Kd.R_drewN | apply Kd.R_drew)); exact HO_6.out) (Kd.R_base ho0) hb); have n1_ := Aside0.mk (Kd.R_elder' (by (with_reducible repeat (first | apply Kd.R_alloc | apply Kd.R_drewN | apply Kd.R_drew)); exact HO_8.out) (Kd.R_base ho0) hb); have n2_ := Aside0.mk (Kd.R_below (by (with_reducible repeat (first | apply Kd.R_alloc | apply Kd.R_drewN | apply Kd.R_drew)); exact HO_455002.out) hb); have n3_ := Aside0.mk (Kd.R_below (by (with_reducible repeat (first | apply Kd.R_alloc | apply Kd.R_drewN | apply Kd.R_drew)); exact HO_455003.out) hb); have n4_ := Aside0.mk (Kd.R_below (by (with_reducible repeat (first | apply Kd.R_alloc | apply Kd.R_drewN | apply Kd.R_drew)); exact HO479.out) hb); have n5_ := Aside0.mk (Kd.R_below (by (with_reducible repeat (first | apply Kd.R_alloc | apply Kd.R_drewN | apply Kd.R_drew)); exact HO482.out) hb); have n6_ := Aside0.mk (Kd.R_lower (Kd.R_new' (Kd.R_new' ho0 (Kd.R_lt (by (with_reducible repeat (first | apply Kd.R_alloc | apply Kd.R_drewN | apply Kd.R_drew)); exact HO_6.out))) (Kd.R_lt (by (with_reducible repeat (first | apply Kd.R_alloc | apply Kd.R_drewN | apply Kd.R_drew)); exact HO_8.out))) (below_size (by repeat (first | (with_reducible first | exact HB.out | apply below_alloc | apply pw_below_drewN | apply below_drew1 | refine below_set ?_ GE433.out | refine below_set ?_ GE454.out) | exact HB.out)))); have n7_ := Aside0.mk (blk_below (g := gb433) (o := .cells #[.int .i64 a0_0, .int .i64 a0_1, .slice A0_2 l0_2.length c0_2, .slice A0_3 l0_3.length c0_3] 42 (0, 0)) (by (with_reducible repeat (first | refine blk_drewN ?_ _ | refine blk_drew ?_ | refine blk_alloc ?_ _)); exact BK433.out) hb); have n8_ := Aside0.mk (blk_below (g := gb454) (o := .cells #[.int .i64 t446, .int .i64 t447, .slice Ao34 t469.length co34, .slice Ao35 t470.length co35] 46 (0, 0)) (by (with_reducible repeat (first | refine blk_drewN ?_ _ | refine blk_drew ?_ | refine blk_alloc ?_ _)); exact BK454.out) hb); have n9_ := Aside0.mk (below_step (by repeat (first | (with_reducible first | exact HB.out | apply below_alloc | apply pw_below_drewN | apply below_drew1 | refine below_set ?_ GE433.out | refine below_set ?_ GE454.out) | exact HB.out)) hb); clear HO_6; clear HO_8; clear HO_455002; clear HO_455003; clear HO479; clear HO482; clear BK433; clear BK454; clear HB; have HO_6 := n0_; have HO_8 := n1_; have HO_455002 := n2_; have HO_455003 := n3_; have HO479 := n4_; have HO482 := n5_; have HO485 := n6_; have BK433 := n7_; have BK454 := n8_; have HB := n9_; clear n0_ n1_ n2_ n3_ n4_ n5_ n6_ n7_ n8_ n9_; (try clear hb); (try clear hb2); (try clear hk); (try clear hi); (try clear ho0); obtain ⟨Ao68, co68, eo68⟩ := Kd.R_slice HO485.out; subst eo68) | ((with_reducible refine gate_callee (f := 31) rfl ?_); refine goesL_ (some 67) rfl rfl Try.func31 (by kernel_rfl) rfl #[.slice Ao68 t483.length co68, .slice Ao38 t443.length co38] rfl (by (try simp only [List.map_toArray, List.map_cons, List.map_nil]); first | done | rfl | (simp only [List.length_drop, List.length_take]; rfl)) ?_; (with_reducible refine (laws_eqStringS.calls kj19 _ _ t483 _ _ t443 true _ ?side1 ?side2 ?side3 ?side4 A55.out).mono ?_); (case side1 => repeat (first | exact (Kd.R_reads' HO485.out).2.2 | (with_reducible refine Kd.C_alloc ?_ _) | (with_reducible refine Kd.C_drewN ?_ _) | (with_reducible refine Kd.C_drew ?_))); (case side2 => exact (Kd.R_reads' HO485.out).2.1); (case side3 => repeat (first | exact (Kd.R_reads' HO_6.out).2.2 | (with_reducible refine Kd.C_alloc ?_ _) | (with_reducible refine Kd.C_drewN ?_ _) | (with_reducible refine Kd.C_drew ?_))); (case side4 => exact (Kd.R_reads' HO_6.out).2.1); rintro e w' ⟨rfl, ⟨nd, rfl⟩⟩; refine ⟨_, rfl, ?_⟩) | ((with_reducible refine gate_callee (f := 35) rfl ?_); refine goesL_ (some 71) rfl rfl Try.func35 (by kernel_rfl) rfl #[.slice Ao37 t473.length co37, .int .i64 1] rfl (by (try simp only [List.map_toArray, List.map_cons, List.map_nil]); first | done | (rw [show t473.length = t455.length from (Kd.R_reads' HO_8.out).1.symm] <;> rfl) | rfl | (simp only [List.length_drop, List.length_take]; rfl)) ?_; (with_reducible refine (laws_heldStringS.calls kj19 _ _ t473 1 t487 _ ?side1 ?side2 A57.out).mono ?_); (case side1 => repeat (first | exact (Kd.R_reads' HO_8.out).2.2 | (with_reducible refine Kd.C_alloc ?_ _) | (with_reducible refine Kd.C_drewN ?_ _) | (with_reducible refine Kd.C_drew ?_))); (case side2 => rw [show t473.length = t455.length from (Kd.R_reads' HO_8.out).1.symm]; exact (Kd.R_reads' HO_8.out).2.1); rintro e w69 ⟨rfl, hb⟩; refine ⟨_, rfl, ?_⟩; have n0_ := Aside0.mk (Kd.R_below (by (with_reducible repeat (first | apply Kd.R_alloc | apply Kd.R_drewN | apply Kd.R_drew)); exact HO_6.out) hb); have n1_ := Aside0.mk (Kd.R_below (by (with_reducible repeat (first | apply Kd.R_alloc | apply Kd.R_drewN | apply Kd.R_drew)); exact HO_8.out) hb); have n2_ := Aside0.mk (Kd.R_below (by (with_reducible repeat (first | apply Kd.R_alloc | apply Kd.R_drewN | apply Kd.R_drew)); exact HO_455002.out) hb); have n3_ := Aside0.mk (Kd.R_below (by (with_reducible repeat (first | apply Kd.R_alloc | apply Kd.R_drewN | apply Kd.R_drew)); exact HO_455003.out) hb); have n4_ := Aside0.mk (Kd.R_below (by (with_reducible repeat (first | apply Kd.R_alloc | apply Kd.R_drewN | apply Kd.R_drew)); exact HO479.out) hb); have n5_ := Aside0.mk (Kd.R_below (by (with_reducible repeat (first | apply Kd.R_alloc | apply Kd.R_drewN | apply Kd.R_drew)); exact HO482.out) hb); have n6_ := Aside0.mk (Kd.R_below (by (with_reducible repeat (first | apply Kd.R_alloc | apply Kd.R_drewN | apply Kd.R_drew)); exact HO485.out) hb); have n7_ := Aside0.mk (blk_below (g := gb433) (o := .cells #[.int .i64 a0_0, .int .i64 a0_1, .slice A0_2 l0_2.length c0_2, .slice A0_3 l0_3.length c0_3] 42 (0, 0)) (by (with_reducible repeat (first | refine blk_drewN ?_ _ | refine blk_drew ?_ | refine blk_alloc ?_ _)); exact BK433.out) hb); have n8_ := Aside0.mk (blk_below (g := gb454) (o := .cells #[.int .i64 t446, .int .i64 t447, .slice Ao34 t469.length co34, .slice Ao35 t470.length co35] 46 (0, 0)) (by (with_reducible repeat (first | refine blk_drewN ?_ _ | refine blk_drew ?_ | refine blk_alloc ?_ _)); exact BK454.out) hb); have n9_ := Aside0.mk (below_step (by repeat (first | (with_reducible first | exact HB.out | apply below_alloc | apply pw_below_drewN | apply below_drew1 | refine below_set ?_ GE433.out | refine below_set ?_ GE454.out) | exact HB.out)) hb); clear HO_6; clear HO_8; clear HO_455002; clear HO_455003; clear HO479; clear HO482; clear HO485; clear BK433; clear BK454; clear HB; have HO_6 := n0_; have HO_8 := n1_; have HO_455002 := n2_; have HO_455003 := n3_; have HO479 := n4_; have HO482 := n5_; have HO485 := n6_; have BK433 := n7_; have BK454 := n8_; have HB := n9_; clear n0_ n1_ n2_ n3_ n4_ n5_ n6_ n7_ n8_ n9_; (try clear hb); (try clear hb2); (try clear hk); (try clear hi)))
             go_ret
             exact ⟨by first | rfl | (simp [errW_none, errW_some] <;> rfl) | (simp [*, errW_none, errW_some] <;> rfl), by repeat (first | (with_reducible first | exact HB.out | apply below_alloc | apply pw_below_drewN | apply below_drew1 | refine below_set ?_ GE433.out | refine below_set ?_ GE454.out) | exact HB.out)⟩
            ·rw [if_neg c59] at H
             have c59b0 : (t487 == t472) = false := beq_eq_false_iff_ne.mpr c59
             have c59b1 : (t487 != t472) = true := bne_iff_ne.mpr c59
             exact absurd H (by simp)
          ·replace c56 := Bool.eq_false_iff.mpr c56
           subst c56
           have H1 : (some false) = some true := by rw [if_neg (show ¬ (false = true) by decide)] at H; exact H
           clear H
           have H := H1
           clear H1
           exact absurd H (by simp)
         ·rw [if_neg c52] at H
          have c52b0 : (t474 == t472) = false := beq_eq_false_iff_ne.mpr c52
          have c52b1 : (t474 != t472) = true := bne_iff_ne.mpr c52
          exact absurd H (by simp)
    ·replace c18 := Bool.eq_false_iff.mpr c18
     subst c18
     have H1 : (some false) = some true := by rw [if_neg (show ¬ (false = true) by decide)] at H; exact H
     clear H
     have H := H1
     clear H1
     exact absurd H (by simp)
   ·replace c15 := Bool.eq_false_iff.mpr c15
    subst c15
    have H1 : (some false) = some true := by rw [if_neg (show ¬ (false = true) by decide)] at H; exact H
    clear H
    have H := H1
    clear H1
    exact absurd H (by simp)

end Go.Proofs.Ytaeeickboakmgaa.X
