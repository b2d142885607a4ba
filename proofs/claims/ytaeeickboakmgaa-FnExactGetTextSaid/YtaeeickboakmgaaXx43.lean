/- Printed for this claim by the session's program (the kit's printer, several laws in one place): the functions that the law reaches, each as a plain Lean function, and the proof that the Go code comes to its answers. Conditions: none beside those that each theorem states. -/
import Derived.Test.YtaeeickboakmgaaXx0
import Derived.Test.YtaeeickboakmgaaXx8
import Derived.Test.YtaeeickboakmgaaXx9
import Derived.Test.YtaeeickboakmgaaXx10
import Derived.Test.YtaeeickboakmgaaXx14
import Derived.Test.YtaeeickboakmgaaXx15
import Derived.Test.YtaeeickboakmgaaXx16
import Derived.Test.YtaeeickboakmgaaWAll
namespace Go.Proofs.Ytaeeickboakmgaa.X
open Go.RowKit Go.Proofs.YtaeeickboakmgaaW.PrintWords Go.Proofs.YtaeeickboakmgaaW.PrintLast Go.Proofs.YtaeeickboakmgaaW.PrintStep Go.Proofs.YtaeeickboakmgaaW.PrintMore
attribute [local go_sem] max2_int min2_int max_two min_two max_three min_three max_four min_four   -- for this text's walks alone
set_option linter.unusedVariables false
set_option linter.unusedSimpArgs false

/-! ### laws_szGetting: function 50 -/
def laws_szGetting.f (k : Nat) (a0_0 : Int) (a0_1 : Int) (l0_2 : List Int) (l0_3 : List Int) (a0_4 : Int) (a0_5 : Int) (l0_6 : List (S102)) (a1 : Int) : Option (Int) := (laws_szPlan.f a0_0 a0_1 l0_2 l0_3 a1).bind fun t963 => (if t963 < 0 then (some (-1)) else ((laws_szSolver.f k a0_4 a0_5 l0_6 t963).bind fun t964 => (if t964 < 0 then (some (-1)) else (some t964))))
theorem laws_szGetting.mono : ∀ a0 a1 a2 a3 a4 a5 a6 a7 k, LeO (laws_szGetting.f k a0 a1 a2 a3 a4 a5 a6 a7) (laws_szGetting.f (k + 1) a0 a1 a2 a3 a4 a5 a6 a7) := by
 intro a0 a1 a2 a3 a4 a5 a6 a7 k
 unfold laws_szGetting.f
 repeat' first
  | (with_reducible exact laws_szSolver.mono _ _ _ _ _)
  | (with_reducible exact LeO.refl _)
  | (with_reducible exact LeO.none _)
  | (with_reducible refine LeO.ite ?_ ?_)
  | (with_reducible refine LeO.bind ?_ (fun _ => ?_))
  | exact laws_szSolver.mono _ _ _ _ _
  | exact LeO.none _
  | refine LeO.ite ?_ ?_
  | refine LeO.bind ?_ (fun _ => ?_)
set_option maxHeartbeats 8000000 in
set_option maxRecDepth 100000 in
theorem laws_szGetting.calls (k : Nat) (a0_0 : Int) (a0_1 : Int) (A0_2 : Option Addr) (c0_2 : Nat) (l0_2 : List Int) (A0_3 : Option Addr) (c0_3 : Nat) (l0_3 : List Int) (a0_4 : Int) (a0_5 : Int) (A0_6 : Option Addr) (c0_6 : Nat) (l0_6 : List (S102)) (a1 : Int) (r : Int) (w : World) (hr0_2 : Kd.C (Kd.int .i64) w A0_2 l0_2.length l0_2) (hc0_2 : l0_2.length ≤ c0_2) (hr0_3 : Kd.C (Kd.int .i64) w A0_3 l0_3.length l0_3) (hc0_3 : l0_3.length ≤ c0_3) (hr0_6 : Kd.C k102 w A0_6 l0_6.length l0_6) (hc0_6 : l0_6.length ≤ c0_6) (h : laws_szGetting.f k a0_0 a0_1 l0_2 l0_3 a0_4 a0_5 l0_6 a1 = some r) :
 Calls Try.prog 50 #[.agg #[.int .i64 a0_0, .int .i64 a0_1, .slice A0_2 l0_2.length c0_2, .slice A0_3 l0_3.length c0_3, .int .i64 a0_4, .int .i64 a0_5, .slice A0_6 l0_6.length c0_6], .int .i64 a1] w fun e w' => e = .returned (.int .i64 r) ∧ Below w.heap.size w w' := by
 have hu67 := Try.underlying67
 have hu42 := Try.underlying42
 have hu32 := Try.underlying32
 have HR0_2 := Aside0.mk hr0_2
 have HC0_2 := Aside0.mk hc0_2
 clear hr0_2 hc0_2
 have HR0_3 := Aside0.mk hr0_3
 have HC0_3 := Aside0.mk hc0_3
 clear hr0_3 hc0_3
 have HR0_6 := Aside0.mk hr0_6
 have HC0_6 := Aside0.mk hc0_6
 clear hr0_6 hc0_6
 have HB := Aside0.mk (Below.refl w.heap.size w)
 have H : ((laws_szPlan.f a0_0 a0_1 l0_2 l0_3 a1).bind fun t963 => (if t963 < 0 then (some (-1)) else ((laws_szSolver.f k a0_4 a0_5 l0_6 t963).bind fun t964 => (if t964 < 0 then (some (-1)) else (some t964))))) = some r := h
 clear h
 replace H := bI_ H
 obtain ⟨t963, A30, H⟩ := H
 replace H : (if t963 < 0 then (some (-1)) else ((laws_szSolver.f k a0_4 a0_5 l0_6 t963).bind fun t964 => (if t964 < 0 then (some (-1)) else (some t964)))) = some r := H
 have A3 := Aside0.mk A30
 clear A30
 by_cases c4 : t963 < 0
 ·rw [if_pos c4] at H
  have c4b0 : decide (t963 < 0) = true := decide_eq_true c4
  clear c4
  obtain rfl := Option.some.inj H
  go_enter Try.func50, Try.ntmps50
  go_wp2_with (first | ((with_reducible refine gate_dst (N := 2) rfl ?_); refine box_event ?hg (N := 2) ?hd (cs := #[.int .i64 a0_0, .int .i64 a0_1, .slice A0_2 l0_2.length c0_2, .slice A0_3 l0_3.length c0_3, .int .i64 a0_4, .int .i64 a0_5, .slice A0_6 l0_6.length c0_6]) (t := 67) ?hr ?_; (case hd => rfl); (case hg => rfl); (case hr => first | (go_simp; done) | (go_simp; rfl)); intro gb962 hg w5 hbox hb; have n0_ := Aside0.mk (below_step (gB HB.out) hb); have n1_ := Aside0.mk (hbox); have n2_ := Aside0.mk ((by rw [hg]; exact (below_size (gB HB.out)) : w.heap.size ≤ gb962)); have n3_ := n2_; clear HB; have HB := n0_; have BK962 := n1_; have GW962 := n2_; have GE962 := n3_; clear n0_ n1_ n2_ n3_; clear hb hbox hg; have hcz6_0 := cz_ BK962.out 0 rfl; have hcz6_1 := cz_ BK962.out 1 rfl; have hcz6_2 := cz_ BK962.out 2 rfl; have hcz6_3 := cz_ BK962.out 3 rfl; have hcz6_4 := cz_ BK962.out 4 rfl; have hcz6_5 := cz_ BK962.out 5 rfl; have hcz6_6 := cz_ BK962.out 6 rfl; have hfz6_0 := blk_frozen BK962.out 0; have hfz6_1 := blk_frozen BK962.out 1; have hfz6_2 := blk_frozen BK962.out 2; have hfz6_3 := blk_frozen BK962.out 3; have hfz6_4 := blk_frozen BK962.out 4; have hfz6_5 := blk_frozen BK962.out 5; have hfz6_6 := blk_frozen BK962.out 6) | ((with_reducible refine gate_callee (f := 27) rfl ?_); refine goesL_ (some 8) rfl rfl Try.func27 (by kernel_rfl) rfl #[.agg #[.int .i64 a0_0, .int .i64 a0_1, .slice A0_2 l0_2.length c0_2, .slice A0_3 l0_3.length c0_3], .int .i64 a1] rfl (by (try simp only [List.map_toArray, List.map_cons, List.map_nil]); first | done | rfl | (simp only [List.length_drop, List.length_take]; rfl)) ?_; (with_reducible refine (laws_szPlan.calls a0_0 a0_1 _ _ l0_2 _ _ l0_3 a1 t963 _ ?side1 ?side2 ?side3 ?side4 A3.out).mono ?_); (case side1 => exact gC (Kd.C_below HR0_2.out HB.out)); (case side2 => exact HC0_2.out); (case side3 => exact gC (Kd.C_below HR0_3.out HB.out)); (case side4 => exact HC0_3.out); rintro e w7 ⟨rfl, hb⟩; refine ⟨_, rfl, ?_⟩; have n0_ := Aside0.mk (blk_below (gK BK962.out) hb); have n1_ := Aside0.mk (below_step (gB HB.out) hb); clear BK962; clear HB; have BK962 := n0_; have HB := n1_; clear n0_ n1_; (try clear hb); (try clear hb2); (try clear hk); (try clear hi)))
  go_ret
  exact ⟨by first | rfl | (simp [errW_none, errW_some] <;> rfl) | (simp [*, errW_none, errW_some] <;> rfl), by repeat (first | (with_reducible first | exact HB.out | apply below_alloc | apply pw_below_drewN | apply below_drew1 | refine below_set ?_ GE962.out) | exact HB.out)⟩
 ·rw [if_neg c4] at H
  have c4b0 : decide (t963 < 0) = false := decide_eq_false c4
  clear c4
  replace H := bI_ H
  obtain ⟨t964, A80, H⟩ := H
  replace H : (if t964 < 0 then (some (-1)) else (some t964)) = some r := H
  have A8 := Aside0.mk A80
  clear A80
  by_cases c9 : t964 < 0
  ·rw [if_pos c9] at H
   have c9b0 : decide (t964 < 0) = true := decide_eq_true c9
   clear c9
   obtain rfl := Option.some.inj H
   go_enter Try.func50, Try.ntmps50
   go_wp2_with (first | ((with_reducible refine gate_dst (N := 2) rfl ?_); refine box_event ?hg (N := 2) ?hd (cs := #[.int .i64 a0_0, .int .i64 a0_1, .slice A0_2 l0_2.length c0_2, .slice A0_3 l0_3.length c0_3, .int .i64 a0_4, .int .i64 a0_5, .slice A0_6 l0_6.length c0_6]) (t := 67) ?hr ?_; (case hd => rfl); (case hg => rfl); (case hr => first | (go_simp; done) | (go_simp; rfl)); intro gb962 hg w10 hbox hb; have n0_ := Aside0.mk (below_step (gB HB.out) hb); have n1_ := Aside0.mk (hbox); have n2_ := Aside0.mk ((by rw [hg]; exact (below_size (gB HB.out)) : w.heap.size ≤ gb962)); have n3_ := n2_; clear HB; have HB := n0_; have BK962 := n1_; have GW962 := n2_; have GE962 := n3_; clear n0_ n1_ n2_ n3_; clear hb hbox hg; have hcz11_0 := cz_ BK962.out 0 rfl; have hcz11_1 := cz_ BK962.out 1 rfl; have hcz11_2 := cz_ BK962.out 2 rfl; have hcz11_3 := cz_ BK962.out 3 rfl; have hcz11_4 := cz_ BK962.out 4 rfl; have hcz11_5 := cz_ BK962.out 5 rfl; have hcz11_6 := cz_ BK962.out 6 rfl; have hfz11_0 := blk_frozen BK962.out 0; have hfz11_1 := blk_frozen BK962.out 1; have hfz11_2 := blk_frozen BK962.out 2; have hfz11_3 := blk_frozen BK962.out 3; have hfz11_4 := blk_frozen BK962.out 4; have hfz11_5 := blk_frozen BK962.out 5; have hfz11_6 := blk_frozen BK962.out 6) | ((with_reducible refine gate_callee (f := 27) rfl ?_); refine goesL_ (some 8) rfl rfl Try.func27 (by kernel_rfl) rfl #[.agg #[.int .i64 a0_0, .int .i64 a0_1, .slice A0_2 l0_2.length c0_2, .slice A0_3 l0_3.length c0_3], .int .i64 a1] rfl (by (try simp only [List.map_toArray, List.map_cons, List.map_nil]); first | done | rfl | (simp only [List.length_drop, List.length_take]; rfl)) ?_; (with_reducible refine (laws_szPlan.calls a0_0 a0_1 _ _ l0_2 _ _ l0_3 a1 t963 _ ?side1 ?side2 ?side3 ?side4 A3.out).mono ?_); (case side1 => exact gC (Kd.C_below HR0_2.out HB.out)); (case side2 => exact HC0_2.out); (case side3 => exact gC (Kd.C_below HR0_3.out HB.out)); (case side4 => exact HC0_3.out); rintro e w12 ⟨rfl, hb⟩; refine ⟨_, rfl, ?_⟩; have n0_ := Aside0.mk (blk_below (gK BK962.out) hb); have n1_ := Aside0.mk (below_step (gB HB.out) hb); clear BK962; clear HB; have BK962 := n0_; have HB := n1_; clear n0_ n1_; (try clear hb); (try clear hb2); (try clear hk); (try clear hi); have hcz13_0 := cz_ BK962.out 0 rfl; have hcz13_1 := cz_ BK962.out 1 rfl; have hcz13_2 := cz_ BK962.out 2 rfl; have hcz13_3 := cz_ BK962.out 3 rfl; have hcz13_4 := cz_ BK962.out 4 rfl; have hcz13_5 := cz_ BK962.out 5 rfl; have hcz13_6 := cz_ BK962.out 6 rfl; have hfz13_0 := blk_frozen BK962.out 0; have hfz13_1 := blk_frozen BK962.out 1; have hfz13_2 := blk_frozen BK962.out 2; have hfz13_3 := blk_frozen BK962.out 3; have hfz13_4 := blk_frozen BK962.out 4; have hfz13_5 := blk_frozen BK962.out 5; have hfz13_6 := blk_frozen BK962.out 6) | ((with_reducible refine gate_callee (f := 22) rfl ?_); refine goesL_ (some 14) rfl rfl Try.func22 (by kernel_rfl) rfl #[.agg #[.int .i64 a0_4, .int .i64 a0_5, .slice A0_6 l0_6.length c0_6], .int .i64 t963] rfl (by (try simp only [List.map_toArray, List.map_cons, List.map_nil]); first | done | rfl | (simp only [List.length_drop, List.length_take]; rfl)) ?_; (with_reducible refine (laws_szSolver.calls k a0_4 a0_5 _ _ l0_6 t963 t964 _ ?side1 ?side2 A8.out).mono ?_); (case side1 => exact gC (Kd.C_below HR0_6.out HB.out)); (case side2 => exact HC0_6.out); rintro e w14 ⟨rfl, hb⟩; refine ⟨_, rfl, ?_⟩; have n0_ := Aside0.mk (blk_below (gK BK962.out) hb); have n1_ := Aside0.mk (below_step (gB HB.out) hb); clear BK962; clear HB; have BK962 := n0_; have HB := n1_; clear n0_ n1_; (try clear hb); (try clear hb2); (try clear hk); (try clear hi)))
   go_ret
   exact ⟨by first | rfl | (simp [errW_none, errW_some] <;> rfl) | (simp [*, errW_none, errW_some] <;> rfl), by repeat (first | (with_reducible first | exact HB.out | apply below_alloc | apply pw_below_drewN | apply below_drew1 | refine below_set ?_ GE962.out) | exact HB.out)⟩
  ·rw [if_neg c9] at H
   have c9b0 : decide (t964 < 0) = false := decide_eq_false c9
   clear c9
   obtain rfl := Option.some.inj H
   go_enter Try.func50, Try.ntmps50
   go_wp2_with (first | ((with_reducible refine gate_dst (N := 2) rfl ?_); refine box_event ?hg (N := 2) ?hd (cs := #[.int .i64 a0_0, .int .i64 a0_1, .slice A0_2 l0_2.length c0_2, .slice A0_3 l0_3.length c0_3, .int .i64 a0_4, .int .i64 a0_5, .slice A0_6 l0_6.length c0_6]) (t := 67) ?hr ?_; (case hd => rfl); (case hg => rfl); (case hr => first | (go_simp; done) | (go_simp; rfl)); intro gb962 hg w15 hbox hb; have n0_ := Aside0.mk (below_step (gB HB.out) hb); have n1_ := Aside0.mk (hbox); have n2_ := Aside0.mk ((by rw [hg]; exact (below_size (gB HB.out)) : w.heap.size ≤ gb962)); have n3_ := n2_; clear HB; have HB := n0_; have BK962 := n1_; have GW962 := n2_; have GE962 := n3_; clear n0_ n1_ n2_ n3_; clear hb hbox hg; have hcz16_0 := cz_ BK962.out 0 rfl; have hcz16_1 := cz_ BK962.out 1 rfl; have hcz16_2 := cz_ BK962.out 2 rfl; have hcz16_3 := cz_ BK962.out 3 rfl; have hcz16_4 := cz_ BK962.out 4 rfl; have hcz16_5 := cz_ BK962.out 5 rfl; have hcz16_6 := cz_ BK962.out 6 rfl; have hfz16_0 := blk_frozen BK962.out 0; have hfz16_1 := blk_frozen BK962.out 1; have hfz16_2 := blk_frozen BK962.out 2; have hfz16_3 := blk_frozen BK962.out 3; have hfz16_4 := blk_frozen BK962.out 4; have hfz16_5 := blk_frozen BK962.out 5; have hfz16_6 := blk_frozen BK962.out 6) | ((with_reducible refine gate_callee (f := 27) rfl ?_); refine goesL_ (some 8) rfl rfl Try.func27 (by kernel_rfl) rfl #[.agg #[.int .i64 a0_0, .int .i64 a0_1, .slice A0_2 l0_2.length c0_2, .slice A0_3 l0_3.length c0_3], .int .i64 a1] rfl (by (try simp only [List.map_toArray, List.map_cons, List.map_nil]); first | done | rfl | (simp only [List.length_drop, List.length_take]; rfl)) ?_; (with_reducible refine (laws_szPlan.calls a0_0 a0_1 _ _ l0_2 _ _ l0_3 a1 t963 _ ?side1 ?side2 ?side3 ?side4 A3.out).mono ?_); (case side1 => exact gC (Kd.C_below HR0_2.out HB.out)); (case side2 => exact HC0_2.out); (case side3 => exact gC (Kd.C_below HR0_3.out HB.out)); (case side4 => exact HC0_3.out); rintro e w17 ⟨rfl, hb⟩; refine ⟨_, rfl, ?_⟩; have n0_ := Aside0.mk (blk_below (gK BK962.out) hb); have n1_ := Aside0.mk (below_step (gB HB.out) hb); clear BK962; clear HB; have BK962 := n0_; have HB := n1_; clear n0_ n1_; (try clear hb); (try clear hb2); (try clear hk); (try clear hi); have hcz18_0 := cz_ BK962.out 0 rfl; have hcz18_1 := cz_ BK962.out 1 rfl; have hcz18_2 := cz_ BK962.out 2 rfl; have hcz18_3 := cz_ BK962.out 3 rfl; have hcz18_4 := cz_ BK962.out 4 rfl; have hcz18_5 := cz_ BK962.out 5 rfl; have hcz18_6 := cz_ BK962.out 6 rfl; have hfz18_0 := blk_frozen BK962.out 0; have hfz18_1 := blk_frozen BK962.out 1; have hfz18_2 := blk_frozen BK962.out 2; have hfz18_3 := blk_frozen BK962.out 3; have hfz18_4 := blk_frozen BK962.out 4; have hfz18_5 := blk_frozen BK962.out 5; have hfz18_6 := blk_frozen BK962.out 6) | ((with_reducible refine gate_callee (f := 22) rfl ?_); refine goesL_ (some 14) rfl rfl Try.func22 (by kernel_rfl) rfl #[.agg #[.int .i64 a0_4, .int .i64 a0_5, .slice A0_6 l0_6.length c0_6], .int .i64 t963] rfl (by (try simp only [List.map_toArray, List.map_cons, List.map_nil]); first | done | rfl | (simp only [List.length_drop, List.length_take]; rfl)) ?_; (with_reducible refine (laws_szSolver.calls k a0_4 a0_5 _ _ l0_6 t963 t964 _ ?side1 ?side2 A8.out).mono ?_); (case side1 => exact gC (Kd.C_below HR0_6.out HB.out)); (case side2 => exact HC0_6.out); rintro e w19 ⟨rfl, hb⟩; refine ⟨_, rfl, ?_⟩; have n0_ := Aside0.mk (blk_below (gK BK962.out) hb); have n1_ := Aside0.mk (below_step (gB HB.out) hb); clear BK962; clear HB; have BK962 := n0_; have HB := n1_; clear n0_ n1_; (try clear hb); (try clear hb2); (try clear hk); (try clear hi)))
   go_ret
   exact ⟨by first | rfl | (simp [errW_none, errW_some] <;> rfl) | (simp [*, errW_none, errW_some] <;> rfl), by repeat (first | (with_reducible first | exact HB.out | apply below_alloc | apply pw_below_drewN | apply below_drew1 | refine below_set ?_ GE962.out) | exact HB.out)⟩

/-! ### spec_GetOk: function 51 -/
def spec_GetOk.f (k : Nat) (a0_0 : Int) (a0_1 : Int) (l0_2 : List Int) (l0_3 : List Int) (a0_4 : Int) (a0_5 : Int) (l0_6 : List (S84)) : Option (Bool) := (spec_PlanOk.f k a0_0 a0_1 l0_2 l0_3).bind fun t966 => (if t966 = true then ((spec_SolverOk.f k a0_4 a0_5 l0_6).bind fun t967 => (if t967 = true then ((spec_l5Count.f a0_0 a0_1 l0_2 l0_3).bind fun t968 => (if a0_4 = t968 then (some (a0_5 == a0_1)) else (some false))) else (some false))) else (some false))
theorem spec_GetOk.mono : ∀ a0 a1 a2 a3 a4 a5 a6 k, LeO (spec_GetOk.f k a0 a1 a2 a3 a4 a5 a6) (spec_GetOk.f (k + 1) a0 a1 a2 a3 a4 a5 a6) := by
 intro a0 a1 a2 a3 a4 a5 a6 k
 unfold spec_GetOk.f
 repeat' first
  | (with_reducible exact spec_PlanOk.mono _ _ _ _ _)
  | (with_reducible exact spec_SolverOk.mono _ _ _ _)
  | (with_reducible exact LeO.refl _)
  | (with_reducible exact LeO.none _)
  | (with_reducible refine LeO.ite ?_ ?_)
  | (with_reducible refine LeO.bind ?_ (fun _ => ?_))
  | exact spec_PlanOk.mono _ _ _ _ _
  | exact spec_SolverOk.mono _ _ _ _
  | exact LeO.none _
  | refine LeO.ite ?_ ?_
  | refine LeO.bind ?_ (fun _ => ?_)
def spec_GetOk.T1 : Bool × List (List Nat × List Nat) := (true, [([], []), ([0], [0]), ([1], [1]), ([2, 2], [2]), ([3], [3]), ([4, 3], [3, 4]), ([5, 3, 3], [3, 5]), ([3, 6], [3, 6]), ([7, 6], [7]), ([8], [8]), ([9, 8], [8, 9]), ([10, 8], [8, 10]), ([8], [8]), ([12, 8], [8, 12]), ([13, 8, 8], [8, 13]), ([11, 14, 8], [8, 11, 14]), ([8, 15], [8, 15]), ([16, 14], [16]), ([17], [17]), ([18, 17], [17, 18]), ([19, 17], [17, 19]), ([17], [17]), ([21, 17], [17, 21]), ([22, 17], [17, 22]), ([20, 23, 17], [17, 20, 23]), ([17, 24], [17, 24]), ([25, 17, 0, 1, 2, 3, 4, 5, 6, 7, 8, 9, 10, 11, 12, 13, 14, 15, 16, 17, 18, 19, 20, 21, 22, 23, 24, 25], [25])])
def spec_GetOk.B1 : List Nat := [0, 1, 3, 7, 15, 31, 63, 127, 255, 511, 1023, 2047, 511, 4607, 12799, 32767, 65535, 131071, 262143, 524287, 1048575, 262143, 2359295, 6553599, 16777215, 33554431, 67108863]
theorem spec_GetOk.tab1 : rtab .any (opsOf Try.f51 1) = spec_GetOk.T1 := by kernel_rfl
theorem spec_GetOk.bits1 : waitsOk spec_GetOk.T1.2 spec_GetOk.B1 = true := by kernel_rfl
set_option maxHeartbeats 8000000 in
set_option maxRecDepth 100000 in
theorem spec_GetOk.calls (k : Nat) (a0_0 : Int) (a0_1 : Int) (A0_2 : Option Addr) (c0_2 : Nat) (l0_2 : List Int) (A0_3 : Option Addr) (c0_3 : Nat) (l0_3 : List Int) (a0_4 : Int) (a0_5 : Int) (A0_6 : Option Addr) (c0_6 : Nat) (l0_6 : List (S84)) (r : Bool) (w : World) (hr0_2 : Kd.C (Kd.int .i64) w A0_2 l0_2.length l0_2) (hc0_2 : l0_2.length ≤ c0_2) (hr0_3 : Kd.C (Kd.int .i64) w A0_3 l0_3.length l0_3) (hc0_3 : l0_3.length ≤ c0_3) (hr0_6 : Kd.C k84 w A0_6 l0_6.length l0_6) (hc0_6 : l0_6.length ≤ c0_6) (h : spec_GetOk.f k a0_0 a0_1 l0_2 l0_3 a0_4 a0_5 l0_6 = some r) :
 Calls Try.prog 51 #[.agg #[.int .i64 a0_0, .int .i64 a0_1, .slice A0_2 l0_2.length c0_2, .slice A0_3 l0_3.length c0_3, .int .i64 a0_4, .int .i64 a0_5, .slice A0_6 l0_6.length c0_6]] w fun e w' => e = .returned (.bool r) ∧ Below w.heap.size w w' := by
 have hu61 := Try.underlying61
 have hu46 := Try.underlying46
 have hu37 := Try.underlying37
 have HR0_2 := Aside0.mk hr0_2
 have HC0_2 := Aside0.mk hc0_2
 clear hr0_2 hc0_2
 have HR0_3 := Aside0.mk hr0_3
 have HC0_3 := Aside0.mk hc0_3
 clear hr0_3 hc0_3
 have HR0_6 := Aside0.mk hr0_6
 have HC0_6 := Aside0.mk hc0_6
 clear hr0_6 hc0_6
 have HB := Aside0.mk (Below.refl w.heap.size w)
 have H : ((spec_PlanOk.f k a0_0 a0_1 l0_2 l0_3).bind fun t966 => (if t966 = true then ((spec_SolverOk.f k a0_4 a0_5 l0_6).bind fun t967 => (if t967 = true then ((spec_l5Count.f a0_0 a0_1 l0_2 l0_3).bind fun t968 => (if a0_4 = t968 then (some (a0_5 == a0_1)) else (some false))) else (some false))) else (some false))) = some r := h
 clear h
 replace H := bI_ H
 obtain ⟨t966, A20, H⟩ := H
 replace H : (if t966 = true then ((spec_SolverOk.f k a0_4 a0_5 l0_6).bind fun t967 => (if t967 = true then ((spec_l5Count.f a0_0 a0_1 l0_2 l0_3).bind fun t968 => (if a0_4 = t968 then (some (a0_5 == a0_1)) else (some false))) else (some false))) else (some false)) = some r := H
 have A2 := Aside0.mk A20
 clear A20
 by_cases c3 : t966 = true
 ·subst c3
  have H1 : ((spec_SolverOk.f k a0_4 a0_5 l0_6).bind fun t967 => (if t967 = true then ((spec_l5Count.f a0_0 a0_1 l0_2 l0_3).bind fun t968 => (if a0_4 = t968 then (some (a0_5 == a0_1)) else (some false))) else (some false))) = some r := by rw [if_pos rfl] at H; exact H
  clear H
  have H := H1
  clear H1
  replace H := bI_ H
  obtain ⟨t967, A40, H⟩ := H
  replace H : (if t967 = true then ((spec_l5Count.f a0_0 a0_1 l0_2 l0_3).bind fun t968 => (if a0_4 = t968 then (some (a0_5 == a0_1)) else (some false))) else (some false)) = some r := H
  have A4 := Aside0.mk A40
  clear A40
  by_cases c5 : t967 = true
  ·subst c5
   have H1 : ((spec_l5Count.f a0_0 a0_1 l0_2 l0_3).bind fun t968 => (if a0_4 = t968 then (some (a0_5 == a0_1)) else (some false))) = some r := by rw [if_pos rfl] at H; exact H
   clear H
   have H := H1
   clear H1
   replace H := bI_ H
   obtain ⟨t968, A60, H⟩ := H
   replace H : (if a0_4 = t968 then (some (a0_5 == a0_1)) else (some false)) = some r := H
   have A6 := Aside0.mk A60
   clear A60
   by_cases c7 : a0_4 = t968
   ·rw [if_pos c7] at H
    have c7b0 : (a0_4 == t968) = true := beq_iff_eq.mpr c7
    have c7b1 : (a0_4 != t968) = false := bne_eq_false_iff_eq.mpr c7
    clear c7
    obtain rfl := Option.some.inj H
    go_enter Try.func51, Try.ntmps51
    try go_wp2_with (first | ((with_reducible refine gate_dst (N := 1) rfl ?_); refine box_event ?hg (N := 1) ?hd (cs := #[.int .i64 a0_0, .int .i64 a0_1, .slice A0_2 l0_2.length c0_2, .slice A0_3 l0_3.length c0_3, .int .i64 a0_4, .int .i64 a0_5, .slice A0_6 l0_6.length c0_6]) (t := 61) ?hr ?_; (case hd => rfl); (case hg => rfl); (case hr => first | (go_simp; done) | (go_simp; rfl)); intro gb965 hg w8 hbox hb; have n0_ := Aside0.mk (below_step (gB HB.out) hb); have n1_ := Aside0.mk (hbox); have n2_ := Aside0.mk ((by rw [hg]; exact (below_size (gB HB.out)) : w.heap.size ≤ gb965)); have n3_ := n2_; clear HB; have HB := n0_; have BK965 := n1_; have GW965 := n2_; have GE965 := n3_; clear n0_ n1_ n2_ n3_; clear hb hbox hg))
    have n0_ := Aside0.mk (blk_drew BK965.out)
    have n1_ := Aside0.mk (below_drew1 HB.out)
    clear BK965
    clear HB
    have BK965 := n0_
    have HB := n1_
    clear n0_ n1_
    refine start_ (n := 27) (S := fun w' => w'.cell? ⟨gb965, 0, none⟩ = some (.int .i64 a0_0) ∧ w'.cell? ⟨gb965, 1, none⟩ = some (.int .i64 a0_1) ∧ w'.cell? ⟨gb965, 2, none⟩ = some (.slice A0_2 l0_2.length c0_2) ∧ w'.cell? ⟨gb965, 3, none⟩ = some (.slice A0_3 l0_3.length c0_3) ∧ w'.cell? ⟨gb965, 4, none⟩ = some (.int .i64 a0_4) ∧ w'.cell? ⟨gb965, 5, none⟩ = some (.int .i64 a0_5) ∧ w'.cell? ⟨gb965, 6, none⟩ = some (.slice A0_6 l0_6.length c0_6)) (ds := []) (.replicate 27 false) (by kernel_rfl) rfl rfl ⟨cz_ BK965.out 0 rfl, cz_ BK965.out 1 rfl, cz_ BK965.out 2 rfl, cz_ BK965.out 3 rfl, cz_ BK965.out 4 rfl, cz_ BK965.out 5 rfl, cz_ BK965.out 6 rfl⟩ (fun hHeld => ?_); refine with_tabW spec_GetOk.tab1 spec_GetOk.bits1 (fun HT_ HW_ => ?_)
    generalize w8.drew = w9 at BK965 HB hHeld ⊢
    refine pu_ 0 (some 3) (bv 27 1) rfl rfl (any_of HT_.out (by kernel_rfl)) (fun _ _ _ h => h) (by rfl) (fun w' => by go_simp; with_reducible rfl) (by simp only [Act.put, eA_, e0_, eS_, i64_w, i32_w]; rfl) ?_
    refine tk_ 1 (some 4) (bv 27 3) rfl rfl (take_ofW HT_.out HW_.out (by kernel_rfl)) (fun _ _ _ h => h) (by rfl) hHeld (fun w' ⟨s0, s1, s2, s3, s4, s5, s6⟩ => by go_simp; with_reducible rfl) (by simp only [Act.put, eA_, e0_, eS_, i64_w, i32_w]; rfl) ?_
    refine one_ (i := 2) (N := some 5) (bv 27 7) rfl rfl (one_of HT_.out (by kernel_rfl)) (by decide) (fun K hK => ?_)
    refine goes_ Try.func73 (by kernel_rfl) rfl #[.agg #[.int .i64 a0_0, .int .i64 a0_1, .slice A0_2 l0_2.length c0_2, .slice A0_3 l0_3.length c0_3]] (by rfl) rfl rfl (by (try simp only [List.map_toArray, List.map_cons, List.map_nil]); first | done | rfl | (simp only [List.length_drop, List.length_take]; rfl)) ?_
    with_reducible refine (spec_PlanOk.calls k a0_0 a0_1 _ _ l0_2 _ _ l0_3 true _ ?side1 ?side2 ?side3 ?side4 A2.out).mono ?_
    (case side1 => exact gC (Kd.C_below HR0_2.out HB.out))
    (case side2 => exact HC0_2.out)
    (case side3 => exact gC (Kd.C_below HR0_3.out HB.out))
    (case side4 => exact HC0_3.out)
    rintro e w10 ⟨rfl, hb⟩
    refine ⟨_, rfl, ?_⟩
    have n0_ := Aside0.mk (blk_below (gK BK965.out) hb)
    have n1_ := Aside0.mk (below_step (gB HB.out) hb)
    clear BK965
    clear HB
    have BK965 := n0_
    have HB := n1_
    clear n0_ n1_
    (try clear hb)
    (try clear hb2)
    (try clear hk)
    (try clear hi)
    refine hK.out _ _ ⟨cz_ BK965.out 0 rfl, cz_ BK965.out 1 rfl, cz_ BK965.out 2 rfl, cz_ BK965.out 3 rfl, cz_ BK965.out 4 rfl, cz_ BK965.out 5 rfl, cz_ BK965.out 6 rfl⟩ (fun hHeld => ?_)
    clear hK K
    refine norm_ (a' := ?_) ?_ ?_
    rotate_left
    ·show Act.put _ (some 5) _ = _
     simp only [Act.put, eA_, e0_, eS_, i64_w, i32_w]
     rfl
    refine pu_ 3 (some 6) (bv 27 15) rfl rfl (any_of HT_.out (by kernel_rfl)) (fun _ _ _ h => h) (by rfl) (fun w' => by go_simp; with_reducible rfl) (by simp only [Act.put, eA_, e0_, eS_, i64_w, i32_w]; rfl) ?_
    refine pu_ 4 (some 7) (bv 27 31) rfl rfl (any_of HT_.out (by kernel_rfl)) (fun _ _ _ h => h) (by rfl) (fun w' => by go_simp; with_reducible rfl) (by simp only [Act.put, eA_, e0_, eS_, i64_w, i32_w]; rfl) ?_
    refine tk_ 5 (some 8) (bv 27 63) rfl rfl (take_ofW HT_.out HW_.out (by kernel_rfl)) (fun _ _ _ h => h) (by rfl) hHeld (fun w' ⟨s0, s1, s2, s3, s4, s5, s6⟩ => by go_simp; with_reducible rfl) (by simp only [Act.put, eA_, e0_, eS_, i64_w, i32_w]; rfl) ?_
    refine one_ (i := 6) (N := some 9) (bv 27 127) rfl rfl (one_of HT_.out (by kernel_rfl)) (by decide) (fun K hK => ?_)
    refine goes_ Try.func23 (by kernel_rfl) rfl #[.agg #[.int .i64 a0_4, .int .i64 a0_5, .slice A0_6 l0_6.length c0_6]] (by rfl) rfl rfl (by (try simp only [List.map_toArray, List.map_cons, List.map_nil]); first | done | rfl | (simp only [List.length_drop, List.length_take]; rfl)) ?_
    with_reducible refine (spec_SolverOk.calls k a0_4 a0_5 _ _ l0_6 true _ ?side1 ?side2 A4.out).mono ?_
    (case side1 => exact gC (Kd.C_below HR0_6.out HB.out))
    (case side2 => exact HC0_6.out)
    rintro e w11 ⟨rfl, hb⟩
    refine ⟨_, rfl, ?_⟩
    have n0_ := Aside0.mk (blk_below (gK BK965.out) hb)
    have n1_ := Aside0.mk (below_step (gB HB.out) hb)
    clear BK965
    clear HB
    have BK965 := n0_
    have HB := n1_
    clear n0_ n1_
    (try clear hb)
    (try clear hb2)
    (try clear hk)
    (try clear hi)
    refine hK.out _ _ ⟨cz_ BK965.out 0 rfl, cz_ BK965.out 1 rfl, cz_ BK965.out 2 rfl, cz_ BK965.out 3 rfl, cz_ BK965.out 4 rfl, cz_ BK965.out 5 rfl, cz_ BK965.out 6 rfl⟩ (fun hHeld => ?_)
    clear hK K
    refine norm_ (a' := ?_) ?_ ?_
    rotate_left
    ·show Act.put _ (some 9) _ = _
     simp only [Act.put, eA_, e0_, eS_, i64_w, i32_w]
     rfl
    refine pu_ 7 (some 10) (bv 27 255) rfl rfl (any_of HT_.out (by kernel_rfl)) (fun _ _ _ h => h) (by rfl) (fun w' => by go_simp; with_reducible rfl) (by simp only [Act.put, eA_, e0_, eS_, i64_w, i32_w]; rfl) ?_
    refine pu_ 8 (some 11) (bv 27 511) rfl rfl (any_of HT_.out (by kernel_rfl)) (fun _ _ _ h => h) (by rfl) (fun w' => by go_simp; with_reducible rfl) (by simp only [Act.put, eA_, e0_, eS_, i64_w, i32_w]; rfl) ?_
    refine pu_ 9 (some 12) (bv 27 1023) rfl rfl (any_of HT_.out (by kernel_rfl)) (fun _ _ _ h => h) (by rfl) (fun w' => by go_simp; with_reducible rfl) (by simp only [Act.put, eA_, e0_, eS_, i64_w, i32_w]; rfl) ?_
    refine pu_ 10 (some 13) (bv 27 2047) rfl rfl (any_of HT_.out (by kernel_rfl)) (fun _ _ _ h => h) (by rfl) (fun w' => by go_simp; with_reducible rfl) (by simp only [Act.put, eA_, e0_, eS_, i64_w, i32_w]; rfl) ?_
    refine pu_ 12 (some 15) (bv 27 6143) rfl rfl (any_of HT_.out (by kernel_rfl)) (fun _ _ _ h => h) (by rfl) (fun w' => by go_simp; with_reducible rfl) (by simp only [Act.put, eA_, e0_, eS_, i64_w, i32_w]; rfl) ?_
    refine tk_ 11 (some 14) (bv 27 8191) rfl rfl (take_ofW HT_.out HW_.out (by kernel_rfl)) (fun _ _ _ h => h) (by rfl) hHeld (fun w' ⟨s0, s1, s2, s3, s4, s5, s6⟩ => by go_simp; with_reducible rfl) (by simp only [Act.put, eA_, e0_, eS_, i64_w, i32_w]; rfl) ?_
    refine tk_ 13 (some 16) (bv 27 16383) rfl rfl (take_ofW HT_.out HW_.out (by kernel_rfl)) (fun _ _ _ h => h) (by rfl) hHeld (fun w' ⟨s0, s1, s2, s3, s4, s5, s6⟩ => by go_simp; with_reducible rfl) (by simp only [Act.put, eA_, e0_, eS_, i64_w, i32_w]; rfl) ?_
    refine one_ (i := 14) (N := some 17) (bv 27 32767) rfl rfl (one_of HT_.out (by kernel_rfl)) (by decide) (fun K hK => ?_)
    refine goes_ Try.func90 (by kernel_rfl) rfl #[.agg #[.int .i64 a0_0, .int .i64 a0_1, .slice A0_2 l0_2.length c0_2, .slice A0_3 l0_3.length c0_3]] (by rfl) rfl rfl (by (try simp only [List.map_toArray, List.map_cons, List.map_nil]); first | done | rfl | (simp only [List.length_drop, List.length_take]; rfl)) ?_
    with_reducible refine (spec_l5Count.calls a0_0 a0_1 _ _ l0_2 _ _ l0_3 t968 _ ?side1 ?side2 ?side3 ?side4 A6.out).mono ?_
    (case side1 => exact gC (Kd.C_below HR0_2.out HB.out))
    (case side2 => exact HC0_2.out)
    (case side3 => exact gC (Kd.C_below HR0_3.out HB.out))
    (case side4 => exact HC0_3.out)
    rintro e w12 ⟨rfl, hb⟩
    refine ⟨_, rfl, ?_⟩
    have n0_ := Aside0.mk (blk_below (gK BK965.out) hb)
    have n1_ := Aside0.mk (below_step (gB HB.out) hb)
    clear BK965
    clear HB
    have BK965 := n0_
    have HB := n1_
    clear n0_ n1_
    (try clear hb)
    (try clear hb2)
    (try clear hk)
    (try clear hi)
    refine hK.out _ _ ⟨cz_ BK965.out 0 rfl, cz_ BK965.out 1 rfl, cz_ BK965.out 2 rfl, cz_ BK965.out 3 rfl, cz_ BK965.out 4 rfl, cz_ BK965.out 5 rfl, cz_ BK965.out 6 rfl⟩ (fun hHeld => ?_)
    clear hK K
    refine norm_ (a' := ?_) ?_ ?_
    rotate_left
    ·show Act.put _ (some 17) _ = _
     simp only [Act.put, eA_, e0_, eS_, i64_w, i32_w]
     rfl
    refine pu_ 15 (some 18) (bv 27 65535) rfl rfl (any_of HT_.out (by kernel_rfl)) (fun _ _ _ h => h) (by rfl) (fun w' => by go_simp; with_reducible rfl) (by simp only [Act.put, eA_, e0_, eS_, i64_w, i32_w]; rfl) ?_
    refine pu_ 16 (some 19) (bv 27 131071) rfl rfl (any_of HT_.out (by kernel_rfl)) (fun _ _ _ h => h) (by rfl) (fun w' => by go_simp; with_reducible rfl) (by simp only [Act.put, eA_, e0_, eS_, i64_w, i32_w]; rfl) ?_
    refine pu_ 17 (some 20) (bv 27 262143) rfl rfl (any_of HT_.out (by kernel_rfl)) (fun _ _ _ h => h) (by rfl) (fun w' => by go_simp; with_reducible rfl) (by simp only [Act.put, eA_, e0_, eS_, i64_w, i32_w]; rfl) ?_
    refine pu_ 18 (some 21) (bv 27 524287) rfl rfl (any_of HT_.out (by kernel_rfl)) (fun _ _ _ h => h) (by rfl) (fun w' => by go_simp; with_reducible rfl) (by simp only [Act.put, eA_, e0_, eS_, i64_w, i32_w]; rfl) ?_
    refine pu_ 19 (some 22) (bv 27 1048575) rfl rfl (any_of HT_.out (by kernel_rfl)) (fun _ _ _ h => h) (by rfl) (fun w' => by go_simp; with_reducible rfl) (by simp only [Act.put, eA_, e0_, eS_, i64_w, i32_w]; rfl) ?_
    refine pu_ 21 (some 24) (bv 27 3145727) rfl rfl (any_of HT_.out (by kernel_rfl)) (fun _ _ _ h => h) (by rfl) (fun w' => by go_simp; with_reducible rfl) (by simp only [Act.put, eA_, e0_, eS_, i64_w, i32_w]; rfl) ?_
    refine pu_ 22 (some 25) (bv 27 7340031) rfl rfl (any_of HT_.out (by kernel_rfl)) (fun _ _ _ h => h) (by rfl) (fun w' => by go_simp; with_reducible rfl) (by simp only [Act.put, eA_, e0_, eS_, i64_w, i32_w]; rfl) ?_
    refine tk_ 20 (some 23) (bv 27 8388607) rfl rfl (take_ofW HT_.out HW_.out (by kernel_rfl)) (fun _ _ _ h => h) (by rfl) hHeld (fun w' ⟨s0, s1, s2, s3, s4, s5, s6⟩ => by go_simp; with_reducible rfl) (by simp only [Act.put, eA_, e0_, eS_, i64_w, i32_w]; rfl) ?_
    refine tk_ 23 (some 26) (bv 27 16777215) rfl rfl (take_ofW HT_.out HW_.out (by kernel_rfl)) (fun _ _ _ h => h) (by rfl) hHeld (fun w' ⟨s0, s1, s2, s3, s4, s5, s6⟩ => by go_simp; with_reducible rfl) (by simp only [Act.put, eA_, e0_, eS_, i64_w, i32_w]; rfl) ?_
    refine pu_ 24 (some 27) (bv 27 33554431) rfl rfl (any_of HT_.out (by kernel_rfl)) (fun _ _ _ h => h) (by rfl) (fun w' => by go_simp; with_reducible rfl) (by simp only [Act.put, eA_, e0_, eS_, i64_w, i32_w]; rfl) ?_
    refine pu_ 25 (some 28) (bv 27 67108863) rfl rfl (any_of HT_.out (by kernel_rfl)) (fun _ _ _ h => h) (by rfl) (fun w' => by go_simp; with_reducible rfl) (by simp only [Act.put, eA_, e0_, eS_, i64_w, i32_w]; rfl) ?_
    refine pu_ 26 (some 2) (bv 27 134217727) rfl rfl (any_of HT_.out (by kernel_rfl)) (fun _ _ _ h => h) (by rfl) (fun w' => by go_simp; with_reducible rfl) (by simp only [Act.put, eA_, e0_, eS_, i64_w, i32_w]; rfl) ?_
    refine done_ (done_of HT_.out (by kernel_rfl)) ?_
    try go_wp2
    go_ret
    exact ⟨by first | rfl | (simp [errW_none, errW_some] <;> rfl) | (simp [*, errW_none, errW_some] <;> rfl), by repeat (first | (with_reducible first | exact HB.out | apply below_alloc | apply pw_below_drewN | apply below_drew1 | refine below_set ?_ GE965.out) | exact HB.out)⟩
   ·rw [if_neg c7] at H
    have c7b0 : (a0_4 == t968) = false := beq_eq_false_iff_ne.mpr c7
    have c7b1 : (a0_4 != t968) = true := bne_iff_ne.mpr c7
    obtain rfl := Option.some.inj H
    go_enter Try.func51, Try.ntmps51
    try go_wp2_with (first | ((with_reducible refine gate_dst (N := 1) rfl ?_); refine box_event ?hg (N := 1) ?hd (cs := #[.int .i64 a0_0, .int .i64 a0_1, .slice A0_2 l0_2.length c0_2, .slice A0_3 l0_3.length c0_3, .int .i64 a0_4, .int .i64 a0_5, .slice A0_6 l0_6.length c0_6]) (t := 61) ?hr ?_; (case hd => rfl); (case hg => rfl); (case hr => first | (go_simp; done) | (go_simp; rfl)); intro gb965 hg w13 hbox hb; have n0_ := Aside0.mk (below_step (gB HB.out) hb); have n1_ := Aside0.mk (hbox); have n2_ := Aside0.mk ((by rw [hg]; exact (below_size (gB HB.out)) : w.heap.size ≤ gb965)); have n3_ := n2_; clear HB; have HB := n0_; have BK965 := n1_; have GW965 := n2_; have GE965 := n3_; clear n0_ n1_ n2_ n3_; clear hb hbox hg))
    have n0_ := Aside0.mk (blk_drew BK965.out)
    have n1_ := Aside0.mk (below_drew1 HB.out)
    clear BK965
    clear HB
    have BK965 := n0_
    have HB := n1_
    clear n0_ n1_
    refine start_ (n := 27) (S := fun w' => w'.cell? ⟨gb965, 0, none⟩ = some (.int .i64 a0_0) ∧ w'.cell? ⟨gb965, 1, none⟩ = some (.int .i64 a0_1) ∧ w'.cell? ⟨gb965, 2, none⟩ = some (.slice A0_2 l0_2.length c0_2) ∧ w'.cell? ⟨gb965, 3, none⟩ = some (.slice A0_3 l0_3.length c0_3) ∧ w'.cell? ⟨gb965, 4, none⟩ = some (.int .i64 a0_4) ∧ w'.cell? ⟨gb965, 5, none⟩ = some (.int .i64 a0_5) ∧ w'.cell? ⟨gb965, 6, none⟩ = some (.slice A0_6 l0_6.length c0_6)) (ds := []) (.replicate 27 false) (by kernel_rfl) rfl rfl ⟨cz_ BK965.out 0 rfl, cz_ BK965.out 1 rfl, cz_ BK965.out 2 rfl, cz_ BK965.out 3 rfl, cz_ BK965.out 4 rfl, cz_ BK965.out 5 rfl, cz_ BK965.out 6 rfl⟩ (fun hHeld => ?_); refine with_tabW spec_GetOk.tab1 spec_GetOk.bits1 (fun HT_ HW_ => ?_)
    generalize w13.drew = w14 at BK965 HB hHeld ⊢
    refine pu_ 0 (some 3) (bv 27 1) rfl rfl (any_of HT_.out (by kernel_rfl)) (fun _ _ _ h => h) (by rfl) (fun w' => by go_simp; with_reducible rfl) (by simp only [Act.put, eA_, e0_, eS_, i64_w, i32_w]; rfl) ?_
    refine tk_ 1 (some 4) (bv 27 3) rfl rfl (take_ofW HT_.out HW_.out (by kernel_rfl)) (fun _ _ _ h => h) (by rfl) hHeld (fun w' ⟨s0, s1, s2, s3, s4, s5, s6⟩ => by go_simp; with_reducible rfl) (by simp only [Act.put, eA_, e0_, eS_, i64_w, i32_w]; rfl) ?_
    refine one_ (i := 2) (N := some 5) (bv 27 7) rfl rfl (one_of HT_.out (by kernel_rfl)) (by decide) (fun K hK => ?_)
    refine goes_ Try.func73 (by kernel_rfl) rfl #[.agg #[.int .i64 a0_0, .int .i64 a0_1, .slice A0_2 l0_2.length c0_2, .slice A0_3 l0_3.length c0_3]] (by rfl) rfl rfl (by (try simp only [List.map_toArray, List.map_cons, List.map_nil]); first | done | rfl | (simp only [List.length_drop, List.length_take]; rfl)) ?_
    with_reducible refine (spec_PlanOk.calls k a0_0 a0_1 _ _ l0_2 _ _ l0_3 true _ ?side1 ?side2 ?side3 ?side4 A2.out).mono ?_
    (case side1 => exact gC (Kd.C_below HR0_2.out HB.out))
    (case side2 => exact HC0_2.out)
    (case side3 => exact gC (Kd.C_below HR0_3.out HB.out))
    (case side4 => exact HC0_3.out)
    rintro e w15 ⟨rfl, hb⟩
    refine ⟨_, rfl, ?_⟩
    have n0_ := Aside0.mk (blk_below (gK BK965.out) hb)
    have n1_ := Aside0.mk (below_step (gB HB.out) hb)
    clear BK965
    clear HB
    have BK965 := n0_
    have HB := n1_
    clear n0_ n1_
    (try clear hb)
    (try clear hb2)
    (try clear hk)
    (try clear hi)
    refine hK.out _ _ ⟨cz_ BK965.out 0 rfl, cz_ BK965.out 1 rfl, cz_ BK965.out 2 rfl, cz_ BK965.out 3 rfl, cz_ BK965.out 4 rfl, cz_ BK965.out 5 rfl, cz_ BK965.out 6 rfl⟩ (fun hHeld => ?_)
    clear hK K
    refine norm_ (a' := ?_) ?_ ?_
    rotate_left
    ·show Act.put _ (some 5) _ = _
     simp only [Act.put, eA_, e0_, eS_, i64_w, i32_w]
     rfl
    refine pu_ 3 (some 6) (bv 27 15) rfl rfl (any_of HT_.out (by kernel_rfl)) (fun _ _ _ h => h) (by rfl) (fun w' => by go_simp; with_reducible rfl) (by simp only [Act.put, eA_, e0_, eS_, i64_w, i32_w]; rfl) ?_
    refine pu_ 4 (some 7) (bv 27 31) rfl rfl (any_of HT_.out (by kernel_rfl)) (fun _ _ _ h => h) (by rfl) (fun w' => by go_simp; with_reducible rfl) (by simp only [Act.put, eA_, e0_, eS_, i64_w, i32_w]; rfl) ?_
    refine tk_ 5 (some 8) (bv 27 63) rfl rfl (take_ofW HT_.out HW_.out (by kernel_rfl)) (fun _ _ _ h => h) (by rfl) hHeld (fun w' ⟨s0, s1, s2, s3, s4, s5, s6⟩ => by go_simp; with_reducible rfl) (by simp only [Act.put, eA_, e0_, eS_, i64_w, i32_w]; rfl) ?_
    refine one_ (i := 6) (N := some 9) (bv 27 127) rfl rfl (one_of HT_.out (by kernel_rfl)) (by decide) (fun K hK => ?_)
    refine goes_ Try.func23 (by kernel_rfl) rfl #[.agg #[.int .i64 a0_4, .int .i64 a0_5, .slice A0_6 l0_6.length c0_6]] (by rfl) rfl rfl (by (try simp only [List.map_toArray, List.map_cons, List.map_nil]); first | done | rfl | (simp only [List.length_drop, List.length_take]; rfl)) ?_
    with_reducible refine (spec_SolverOk.calls k a0_4 a0_5 _ _ l0_6 true _ ?side1 ?side2 A4.out).mono ?_
    (case side1 => exact gC (Kd.C_below HR0_6.out HB.out))
    (case side2 => exact HC0_6.out)
    rintro e w16 ⟨rfl, hb⟩
    refine ⟨_, rfl, ?_⟩
    have n0_ := Aside0.mk (blk_below (gK BK965.out) hb)
    have n1_ := Aside0.mk (below_step (gB HB.out) hb)
    clear BK965
    clear HB
    have BK965 := n0_
    have HB := n1_
    clear n0_ n1_
    (try clear hb)
    (try clear hb2)
    (try clear hk)
    (try clear hi)
    refine hK.out _ _ ⟨cz_ BK965.out 0 rfl, cz_ BK965.out 1 rfl, cz_ BK965.out 2 rfl, cz_ BK965.out 3 rfl, cz_ BK965.out 4 rfl, cz_ BK965.out 5 rfl, cz_ BK965.out 6 rfl⟩ (fun hHeld => ?_)
    clear hK K
    refine norm_ (a' := ?_) ?_ ?_
    rotate_left
    ·show Act.put _ (some 9) _ = _
     simp only [Act.put, eA_, e0_, eS_, i64_w, i32_w]
     rfl
    refine pu_ 7 (some 10) (bv 27 255) rfl rfl (any_of HT_.out (by kernel_rfl)) (fun _ _ _ h => h) (by rfl) (fun w' => by go_simp; with_reducible rfl) (by simp only [Act.put, eA_, e0_, eS_, i64_w, i32_w]; rfl) ?_
    refine pu_ 8 (some 11) (bv 27 511) rfl rfl (any_of HT_.out (by kernel_rfl)) (fun _ _ _ h => h) (by rfl) (fun w' => by go_simp; with_reducible rfl) (by simp only [Act.put, eA_, e0_, eS_, i64_w, i32_w]; rfl) ?_
    refine pu_ 9 (some 12) (bv 27 1023) rfl rfl (any_of HT_.out (by kernel_rfl)) (fun _ _ _ h => h) (by rfl) (fun w' => by go_simp; with_reducible rfl) (by simp only [Act.put, eA_, e0_, eS_, i64_w, i32_w]; rfl) ?_
    refine pu_ 10 (some 13) (bv 27 2047) rfl rfl (any_of HT_.out (by kernel_rfl)) (fun _ _ _ h => h) (by rfl) (fun w' => by go_simp; with_reducible rfl) (by simp only [Act.put, eA_, e0_, eS_, i64_w, i32_w]; rfl) ?_
    refine pu_ 12 (some 15) (bv 27 6143) rfl rfl (any_of HT_.out (by kernel_rfl)) (fun _ _ _ h => h) (by rfl) (fun w' => by go_simp; with_reducible rfl) (by simp only [Act.put, eA_, e0_, eS_, i64_w, i32_w]; rfl) ?_
    refine tk_ 11 (some 14) (bv 27 8191) rfl rfl (take_ofW HT_.out HW_.out (by kernel_rfl)) (fun _ _ _ h => h) (by rfl) hHeld (fun w' ⟨s0, s1, s2, s3, s4, s5, s6⟩ => by go_simp; with_reducible rfl) (by simp only [Act.put, eA_, e0_, eS_, i64_w, i32_w]; rfl) ?_
    refine tk_ 13 (some 16) (bv 27 16383) rfl rfl (take_ofW HT_.out HW_.out (by kernel_rfl)) (fun _ _ _ h => h) (by rfl) hHeld (fun w' ⟨s0, s1, s2, s3, s4, s5, s6⟩ => by go_simp; with_reducible rfl) (by simp only [Act.put, eA_, e0_, eS_, i64_w, i32_w]; rfl) ?_
    refine one_ (i := 14) (N := some 17) (bv 27 32767) rfl rfl (one_of HT_.out (by kernel_rfl)) (by decide) (fun K hK => ?_)
    refine goes_ Try.func90 (by kernel_rfl) rfl #[.agg #[.int .i64 a0_0, .int .i64 a0_1, .slice A0_2 l0_2.length c0_2, .slice A0_3 l0_3.length c0_3]] (by rfl) rfl rfl (by (try simp only [List.map_toArray, List.map_cons, List.map_nil]); first | done | rfl | (simp only [List.length_drop, List.length_take]; rfl)) ?_
    with_reducible refine (spec_l5Count.calls a0_0 a0_1 _ _ l0_2 _ _ l0_3 t968 _ ?side1 ?side2 ?side3 ?side4 A6.out).mono ?_
    (case side1 => exact gC (Kd.C_below HR0_2.out HB.out))
    (case side2 => exact HC0_2.out)
    (case side3 => exact gC (Kd.C_below HR0_3.out HB.out))
    (case side4 => exact HC0_3.out)
    rintro e w17 ⟨rfl, hb⟩
    refine ⟨_, rfl, ?_⟩
    have n0_ := Aside0.mk (blk_below (gK BK965.out) hb)
    have n1_ := Aside0.mk (below_step (gB HB.out) hb)
    clear BK965
    clear HB
    have BK965 := n0_
    have HB := n1_
    clear n0_ n1_
    (try clear hb)
    (try clear hb2)
    (try clear hk)
    (try clear hi)
    refine hK.out _ _ ⟨cz_ BK965.out 0 rfl, cz_ BK965.out 1 rfl, cz_ BK965.out 2 rfl, cz_ BK965.out 3 rfl, cz_ BK965.out 4 rfl, cz_ BK965.out 5 rfl, cz_ BK965.out 6 rfl⟩ (fun hHeld => ?_)
    clear hK K
    refine norm_ (a' := ?_) ?_ ?_
    rotate_left
    ·show Act.put _ (some 17) _ = _
     simp only [Act.put, eA_, e0_, eS_, i64_w, i32_w]
     rfl
    refine pu_ 15 (some 18) (bv 27 65535) rfl rfl (any_of HT_.out (by kernel_rfl)) (fun _ _ _ h => h) (by rfl) (fun w' => by go_simp; with_reducible rfl) (by simp only [Act.put, eA_, e0_, eS_, i64_w, i32_w]; rfl) ?_
    refine pu_ 16 (some 19) (bv 27 131071) rfl rfl (any_of HT_.out (by kernel_rfl)) (fun _ _ _ h => h) (by rfl) (fun w' => by go_simp; with_reducible rfl) (by simp only [Act.put, eA_, e0_, eS_, i64_w, i32_w]; rfl) ?_
    refine pu_ 17 (some 20) (bv 27 262143) rfl rfl (any_of HT_.out (by kernel_rfl)) (fun _ _ _ h => h) (by rfl) (fun w' => by go_simp; with_reducible rfl) (by simp only [Act.put, eA_, e0_, eS_, i64_w, i32_w]; rfl) ?_
    refine sk_ 7 [18, 19, 20, 21, 22, 23, 24] [21, 22, 23, 24, 25, 26, 27] (bv 27 33554431) rfl (skB_of HT_.out (by kernel_rfl)) (by kernel_rfl) (fun _ _ _ _ _ h => h) (by simp only [putU, Act.put, eA_, e0_, eS_]; rfl) ?_
    refine pu_ 25 (some 28) (bv 27 67108863) rfl rfl (any_of HT_.out (by kernel_rfl)) (fun _ _ _ h => h) (by rfl) (fun w' => by go_simp; with_reducible rfl) (by simp only [Act.put, eA_, e0_, eS_, i64_w, i32_w]; rfl) ?_
    refine pu_ 26 (some 2) (bv 27 134217727) rfl rfl (any_of HT_.out (by kernel_rfl)) (fun _ _ _ h => h) (by rfl) (fun w' => by go_simp; with_reducible rfl) (by simp only [Act.put, eA_, e0_, eS_, i64_w, i32_w]; rfl) ?_
    refine done_ (done_of HT_.out (by kernel_rfl)) ?_
    try go_wp2
    go_ret
    exact ⟨by first | rfl | (simp [errW_none, errW_some] <;> rfl) | (simp [*, errW_none, errW_some] <;> rfl), by repeat (first | (with_reducible first | exact HB.out | apply below_alloc | apply pw_below_drewN | apply below_drew1 | refine below_set ?_ GE965.out) | exact HB.out)⟩
  ·replace c5 := Bool.eq_false_iff.mpr c5
   subst c5
   have H1 : (some false) = some r := by rw [if_neg (show ¬ (false = true) by decide)] at H; exact H
   clear H
   have H := H1
   clear H1
   obtain rfl := Option.some.inj H
   go_enter Try.func51, Try.ntmps51
   try go_wp2_with (first | ((with_reducible refine gate_dst (N := 1) rfl ?_); refine box_event ?hg (N := 1) ?hd (cs := #[.int .i64 a0_0, .int .i64 a0_1, .slice A0_2 l0_2.length c0_2, .slice A0_3 l0_3.length c0_3, .int .i64 a0_4, .int .i64 a0_5, .slice A0_6 l0_6.length c0_6]) (t := 61) ?hr ?_; (case hd => rfl); (case hg => rfl); (case hr => first | (go_simp; done) | (go_simp; rfl)); intro gb965 hg w18 hbox hb; have n0_ := Aside0.mk (below_step (gB HB.out) hb); have n1_ := Aside0.mk (hbox); have n2_ := Aside0.mk ((by rw [hg]; exact (below_size (gB HB.out)) : w.heap.size ≤ gb965)); have n3_ := n2_; clear HB; have HB := n0_; have BK965 := n1_; have GW965 := n2_; have GE965 := n3_; clear n0_ n1_ n2_ n3_; clear hb hbox hg))
   have n0_ := Aside0.mk (blk_drew BK965.out)
   have n1_ := Aside0.mk (below_drew1 HB.out)
   clear BK965
   clear HB
   have BK965 := n0_
   have HB := n1_
   clear n0_ n1_
   refine start_ (n := 27) (S := fun w' => w'.cell? ⟨gb965, 0, none⟩ = some (.int .i64 a0_0) ∧ w'.cell? ⟨gb965, 1, none⟩ = some (.int .i64 a0_1) ∧ w'.cell? ⟨gb965, 2, none⟩ = some (.slice A0_2 l0_2.length c0_2) ∧ w'.cell? ⟨gb965, 3, none⟩ = some (.slice A0_3 l0_3.length c0_3) ∧ w'.cell? ⟨gb965, 4, none⟩ = some (.int .i64 a0_4) ∧ w'.cell? ⟨gb965, 5, none⟩ = some (.int .i64 a0_5) ∧ w'.cell? ⟨gb965, 6, none⟩ = some (.slice A0_6 l0_6.length c0_6)) (ds := []) (.replicate 27 false) (by kernel_rfl) rfl rfl ⟨cz_ BK965.out 0 rfl, cz_ BK965.out 1 rfl, cz_ BK965.out 2 rfl, cz_ BK965.out 3 rfl, cz_ BK965.out 4 rfl, cz_ BK965.out 5 rfl, cz_ BK965.out 6 rfl⟩ (fun hHeld => ?_); refine with_tabW spec_GetOk.tab1 spec_GetOk.bits1 (fun HT_ HW_ => ?_)
   generalize w18.drew = w19 at BK965 HB hHeld ⊢
   refine pu_ 0 (some 3) (bv 27 1) rfl rfl (any_of HT_.out (by kernel_rfl)) (fun _ _ _ h => h) (by rfl) (fun w' => by go_simp; with_reducible rfl) (by simp only [Act.put, eA_, e0_, eS_, i64_w, i32_w]; rfl) ?_
   refine tk_ 1 (some 4) (bv 27 3) rfl rfl (take_ofW HT_.out HW_.out (by kernel_rfl)) (fun _ _ _ h => h) (by rfl) hHeld (fun w' ⟨s0, s1, s2, s3, s4, s5, s6⟩ => by go_simp; with_reducible rfl) (by simp only [Act.put, eA_, e0_, eS_, i64_w, i32_w]; rfl) ?_
   refine one_ (i := 2) (N := some 5) (bv 27 7) rfl rfl (one_of HT_.out (by kernel_rfl)) (by decide) (fun K hK => ?_)
   refine goes_ Try.func73 (by kernel_rfl) rfl #[.agg #[.int .i64 a0_0, .int .i64 a0_1, .slice A0_2 l0_2.length c0_2, .slice A0_3 l0_3.length c0_3]] (by rfl) rfl rfl (by (try simp only [List.map_toArray, List.map_cons, List.map_nil]); first | done | rfl | (simp only [List.length_drop, List.length_take]; rfl)) ?_
   with_reducible refine (spec_PlanOk.calls k a0_0 a0_1 _ _ l0_2 _ _ l0_3 true _ ?side1 ?side2 ?side3 ?side4 A2.out).mono ?_
   (case side1 => exact gC (Kd.C_below HR0_2.out HB.out))
   (case side2 => exact HC0_2.out)
   (case side3 => exact gC (Kd.C_below HR0_3.out HB.out))
   (case side4 => exact HC0_3.out)
   rintro e w20 ⟨rfl, hb⟩
   refine ⟨_, rfl, ?_⟩
   have n0_ := Aside0.mk (blk_below (gK BK965.out) hb)
   have n1_ := Aside0.mk (below_step (gB HB.out) hb)
   clear BK965
   clear HB
   have BK965 := n0_
   have HB := n1_
   clear n0_ n1_
   (try clear hb)
   (try clear hb2)
   (try clear hk)
   (try clear hi)
   refine hK.out _ _ ⟨cz_ BK965.out 0 rfl, cz_ BK965.out 1 rfl, cz_ BK965.out 2 rfl, cz_ BK965.out 3 rfl, cz_ BK965.out 4 rfl, cz_ BK965.out 5 rfl, cz_ BK965.out 6 rfl⟩ (fun hHeld => ?_)
   clear hK K
   refine norm_ (a' := ?_) ?_ ?_
   rotate_left
   ·show Act.put _ (some 5) _ = _
    simp only [Act.put, eA_, e0_, eS_, i64_w, i32_w]
    rfl
   refine pu_ 3 (some 6) (bv 27 15) rfl rfl (any_of HT_.out (by kernel_rfl)) (fun _ _ _ h => h) (by rfl) (fun w' => by go_simp; with_reducible rfl) (by simp only [Act.put, eA_, e0_, eS_, i64_w, i32_w]; rfl) ?_
   refine pu_ 4 (some 7) (bv 27 31) rfl rfl (any_of HT_.out (by kernel_rfl)) (fun _ _ _ h => h) (by rfl) (fun w' => by go_simp; with_reducible rfl) (by simp only [Act.put, eA_, e0_, eS_, i64_w, i32_w]; rfl) ?_
   refine tk_ 5 (some 8) (bv 27 63) rfl rfl (take_ofW HT_.out HW_.out (by kernel_rfl)) (fun _ _ _ h => h) (by rfl) hHeld (fun w' ⟨s0, s1, s2, s3, s4, s5, s6⟩ => by go_simp; with_reducible rfl) (by simp only [Act.put, eA_, e0_, eS_, i64_w, i32_w]; rfl) ?_
   refine one_ (i := 6) (N := some 9) (bv 27 127) rfl rfl (one_of HT_.out (by kernel_rfl)) (by decide) (fun K hK => ?_)
   refine goes_ Try.func23 (by kernel_rfl) rfl #[.agg #[.int .i64 a0_4, .int .i64 a0_5, .slice A0_6 l0_6.length c0_6]] (by rfl) rfl rfl (by (try simp only [List.map_toArray, List.map_cons, List.map_nil]); first | done | rfl | (simp only [List.length_drop, List.length_take]; rfl)) ?_
   with_reducible refine (spec_SolverOk.calls k a0_4 a0_5 _ _ l0_6 false _ ?side1 ?side2 A4.out).mono ?_
   (case side1 => exact gC (Kd.C_below HR0_6.out HB.out))
   (case side2 => exact HC0_6.out)
   rintro e w21 ⟨rfl, hb⟩
   refine ⟨_, rfl, ?_⟩
   have n0_ := Aside0.mk (blk_below (gK BK965.out) hb)
   have n1_ := Aside0.mk (below_step (gB HB.out) hb)
   clear BK965
   clear HB
   have BK965 := n0_
   have HB := n1_
   clear n0_ n1_
   (try clear hb)
   (try clear hb2)
   (try clear hk)
   (try clear hi)
   refine hK.out _ _ ⟨cz_ BK965.out 0 rfl, cz_ BK965.out 1 rfl, cz_ BK965.out 2 rfl, cz_ BK965.out 3 rfl, cz_ BK965.out 4 rfl, cz_ BK965.out 5 rfl, cz_ BK965.out 6 rfl⟩ (fun hHeld => ?_)
   clear hK K
   refine norm_ (a' := ?_) ?_ ?_
   rotate_left
   ·show Act.put _ (some 9) _ = _
    simp only [Act.put, eA_, e0_, eS_, i64_w, i32_w]
    rfl
   refine pu_ 7 (some 10) (bv 27 255) rfl rfl (any_of HT_.out (by kernel_rfl)) (fun _ _ _ h => h) (by rfl) (fun w' => by go_simp; with_reducible rfl) (by simp only [Act.put, eA_, e0_, eS_, i64_w, i32_w]; rfl) ?_
   refine pu_ 8 (some 11) (bv 27 511) rfl rfl (any_of HT_.out (by kernel_rfl)) (fun _ _ _ h => h) (by rfl) (fun w' => by go_simp; with_reducible rfl) (by simp only [Act.put, eA_, e0_, eS_, i64_w, i32_w]; rfl) ?_
   refine sk_ 7 [9, 10, 11, 12, 13, 14, 15] [12, 13, 14, 15, 16, 17, 18] (bv 27 65535) rfl (skB_of HT_.out (by kernel_rfl)) (by kernel_rfl) (fun _ _ _ _ _ h => h) (by simp only [putU, Act.put, eA_, e0_, eS_]; rfl) ?_
   refine pu_ 16 (some 19) (bv 27 131071) rfl rfl (any_of HT_.out (by kernel_rfl)) (fun _ _ _ h => h) (by rfl) (fun w' => by go_simp; with_reducible rfl) (by simp only [Act.put, eA_, e0_, eS_, i64_w, i32_w]; rfl) ?_
   refine pu_ 17 (some 20) (bv 27 262143) rfl rfl (any_of HT_.out (by kernel_rfl)) (fun _ _ _ h => h) (by rfl) (fun w' => by go_simp; with_reducible rfl) (by simp only [Act.put, eA_, e0_, eS_, i64_w, i32_w]; rfl) ?_
   refine sk_ 7 [18, 19, 20, 21, 22, 23, 24] [21, 22, 23, 24, 25, 26, 27] (bv 27 33554431) rfl (skB_of HT_.out (by kernel_rfl)) (by kernel_rfl) (fun _ _ _ _ _ h => h) (by simp only [putU, Act.put, eA_, e0_, eS_]; rfl) ?_
   refine pu_ 25 (some 28) (bv 27 67108863) rfl rfl (any_of HT_.out (by kernel_rfl)) (fun _ _ _ h => h) (by rfl) (fun w' => by go_simp; with_reducible rfl) (by simp only [Act.put, eA_, e0_, eS_, i64_w, i32_w]; rfl) ?_
   refine pu_ 26 (some 2) (bv 27 134217727) rfl rfl (any_of HT_.out (by kernel_rfl)) (fun _ _ _ h => h) (by rfl) (fun w' => by go_simp; with_reducible rfl) (by simp only [Act.put, eA_, e0_, eS_, i64_w, i32_w]; rfl) ?_
   refine done_ (done_of HT_.out (by kernel_rfl)) ?_
   try go_wp2
   go_ret
   exact ⟨by first | rfl | (simp [errW_none, errW_some] <;> rfl) | (simp [*, errW_none, errW_some] <;> rfl), by repeat (first | (with_reducible first | exact HB.out | apply below_alloc | apply pw_below_drewN | apply below_drew1 | refine below_set ?_ GE965.out) | exact HB.out)⟩
 ·replace c3 := Bool.eq_false_iff.mpr c3
  subst c3
  have H1 : (some false) = some r := by rw [if_neg (show ¬ (false = true) by decide)] at H; exact H
  clear H
  have H := H1
  clear H1
  obtain rfl := Option.some.inj H
  go_enter Try.func51, Try.ntmps51
  try go_wp2_with (first | ((with_reducible refine gate_dst (N := 1) rfl ?_); refine box_event ?hg (N := 1) ?hd (cs := #[.int .i64 a0_0, .int .i64 a0_1, .slice A0_2 l0_2.length c0_2, .slice A0_3 l0_3.length c0_3, .int .i64 a0_4, .int .i64 a0_5, .slice A0_6 l0_6.length c0_6]) (t := 61) ?hr ?_; (case hd => rfl); (case hg => rfl); (case hr => first | (go_simp; done) | (go_simp; rfl)); intro gb965 hg w22 hbox hb; have n0_ := Aside0.mk (below_step (gB HB.out) hb); have n1_ := Aside0.mk (hbox); have n2_ := Aside0.mk ((by rw [hg]; exact (below_size (gB HB.out)) : w.heap.size ≤ gb965)); have n3_ := n2_; clear HB; have HB := n0_; have BK965 := n1_; have GW965 := n2_; have GE965 := n3_; clear n0_ n1_ n2_ n3_; clear hb hbox hg))
  have n0_ := Aside0.mk (blk_drew BK965.out)
  have n1_ := Aside0.mk (below_drew1 HB.out)
  clear BK965
  clear HB
  have BK965 := n0_
  have HB := n1_
  clear n0_ n1_
  refine start_ (n := 27) (S := fun w' => w'.cell? ⟨gb965, 0, none⟩ = some (.int .i64 a0_0) ∧ w'.cell? ⟨gb965, 1, none⟩ = some (.int .i64 a0_1) ∧ w'.cell? ⟨gb965, 2, none⟩ = some (.slice A0_2 l0_2.length c0_2) ∧ w'.cell? ⟨gb965, 3, none⟩ = some (.slice A0_3 l0_3.length c0_3) ∧ w'.cell? ⟨gb965, 4, none⟩ = some (.int .i64 a0_4) ∧ w'.cell? ⟨gb965, 5, none⟩ = some (.int .i64 a0_5) ∧ w'.cell? ⟨gb965, 6, none⟩ = some (.slice A0_6 l0_6.length c0_6)) (ds := []) (.replicate 27 false) (by kernel_rfl) rfl rfl ⟨cz_ BK965.out 0 rfl, cz_ BK965.out 1 rfl, cz_ BK965.out 2 rfl, cz_ BK965.out 3 rfl, cz_ BK965.out 4 rfl, cz_ BK965.out 5 rfl, cz_ BK965.out 6 rfl⟩ (fun hHeld => ?_); refine with_tabW spec_GetOk.tab1 spec_GetOk.bits1 (fun HT_ HW_ => ?_)
  generalize w22.drew = w23 at BK965 HB hHeld ⊢
  refine pu_ 0 (some 3) (bv 27 1) rfl rfl (any_of HT_.out (by kernel_rfl)) (fun _ _ _ h => h) (by rfl) (fun w' => by go_simp; with_reducible rfl) (by simp only [Act.put, eA_, e0_, eS_, i64_w, i32_w]; rfl) ?_
  refine tk_ 1 (some 4) (bv 27 3) rfl rfl (take_ofW HT_.out HW_.out (by kernel_rfl)) (fun _ _ _ h => h) (by rfl) hHeld (fun w' ⟨s0, s1, s2, s3, s4, s5, s6⟩ => by go_simp; with_reducible rfl) (by simp only [Act.put, eA_, e0_, eS_, i64_w, i32_w]; rfl) ?_
  refine one_ (i := 2) (N := some 5) (bv 27 7) rfl rfl (one_of HT_.out (by kernel_rfl)) (by decide) (fun K hK => ?_)
  refine goes_ Try.func73 (by kernel_rfl) rfl #[.agg #[.int .i64 a0_0, .int .i64 a0_1, .slice A0_2 l0_2.length c0_2, .slice A0_3 l0_3.length c0_3]] (by rfl) rfl rfl (by (try simp only [List.map_toArray, List.map_cons, List.map_nil]); first | done | rfl | (simp only [List.length_drop, List.length_take]; rfl)) ?_
  with_reducible refine (spec_PlanOk.calls k a0_0 a0_1 _ _ l0_2 _ _ l0_3 false _ ?side1 ?side2 ?side3 ?side4 A2.out).mono ?_
  (case side1 => exact gC (Kd.C_below HR0_2.out HB.out))
  (case side2 => exact HC0_2.out)
  (case side3 => exact gC (Kd.C_below HR0_3.out HB.out))
  (case side4 => exact HC0_3.out)
  rintro e w24 ⟨rfl, hb⟩
  refine ⟨_, rfl, ?_⟩
  have n0_ := Aside0.mk (blk_below (gK BK965.out) hb)
  have n1_ := Aside0.mk (below_step (gB HB.out) hb)
  clear BK965
  clear HB
  have BK965 := n0_
  have HB := n1_
  clear n0_ n1_
  (try clear hb)
  (try clear hb2)
  (try clear hk)
  (try clear hi)
  refine hK.out _ _ ⟨cz_ BK965.out 0 rfl, cz_ BK965.out 1 rfl, cz_ BK965.out 2 rfl, cz_ BK965.out 3 rfl, cz_ BK965.out 4 rfl, cz_ BK965.out 5 rfl, cz_ BK965.out 6 rfl⟩ (fun hHeld => ?_)
  clear hK K
  refine norm_ (a' := ?_) ?_ ?_
  rotate_left
  ·show Act.put _ (some 5) _ = _
   simp only [Act.put, eA_, e0_, eS_, i64_w, i32_w]
   rfl
  refine pu_ 3 (some 6) (bv 27 15) rfl rfl (any_of HT_.out (by kernel_rfl)) (fun _ _ _ h => h) (by rfl) (fun w' => by go_simp; with_reducible rfl) (by simp only [Act.put, eA_, e0_, eS_, i64_w, i32_w]; rfl) ?_
  refine sk_ 3 [4, 5, 6] [7, 8, 9] (bv 27 127) rfl (skB_of HT_.out (by kernel_rfl)) (by kernel_rfl) (fun _ _ _ _ _ h => h) (by simp only [putU, Act.put, eA_, e0_, eS_]; rfl) ?_
  refine pu_ 7 (some 10) (bv 27 255) rfl rfl (any_of HT_.out (by kernel_rfl)) (fun _ _ _ h => h) (by rfl) (fun w' => by go_simp; with_reducible rfl) (by simp only [Act.put, eA_, e0_, eS_, i64_w, i32_w]; rfl) ?_
  refine pu_ 8 (some 11) (bv 27 511) rfl rfl (any_of HT_.out (by kernel_rfl)) (fun _ _ _ h => h) (by rfl) (fun w' => by go_simp; with_reducible rfl) (by simp only [Act.put, eA_, e0_, eS_, i64_w, i32_w]; rfl) ?_
  refine sk_ 7 [9, 10, 11, 12, 13, 14, 15] [12, 13, 14, 15, 16, 17, 18] (bv 27 65535) rfl (skB_of HT_.out (by kernel_rfl)) (by kernel_rfl) (fun _ _ _ _ _ h => h) (by simp only [putU, Act.put, eA_, e0_, eS_]; rfl) ?_
  refine pu_ 16 (some 19) (bv 27 131071) rfl rfl (any_of HT_.out (by kernel_rfl)) (fun _ _ _ h => h) (by rfl) (fun w' => by go_simp; with_reducible rfl) (by simp only [Act.put, eA_, e0_, eS_, i64_w, i32_w]; rfl) ?_
  refine pu_ 17 (some 20) (bv 27 262143) rfl rfl (any_of HT_.out (by kernel_rfl)) (fun _ _ _ h => h) (by rfl) (fun w' => by go_simp; with_reducible rfl) (by simp only [Act.put, eA_, e0_, eS_, i64_w, i32_w]; rfl) ?_
  refine sk_ 7 [18, 19, 20, 21, 22, 23, 24] [21, 22, 23, 24, 25, 26, 27] (bv 27 33554431) rfl (skB_of HT_.out (by kernel_rfl)) (by kernel_rfl) (fun _ _ _ _ _ h => h) (by simp only [putU, Act.put, eA_, e0_, eS_]; rfl) ?_
  refine pu_ 25 (some 28) (bv 27 67108863) rfl rfl (any_of HT_.out (by kernel_rfl)) (fun _ _ _ h => h) (by rfl) (fun w' => by go_simp; with_reducible rfl) (by simp only [Act.put, eA_, e0_, eS_, i64_w, i32_w]; rfl) ?_
  refine pu_ 26 (some 2) (bv 27 134217727) rfl rfl (any_of HT_.out (by kernel_rfl)) (fun _ _ _ h => h) (by rfl) (fun w' => by go_simp; with_reducible rfl) (by simp only [Act.put, eA_, e0_, eS_, i64_w, i32_w]; rfl) ?_
  refine done_ (done_of HT_.out (by kernel_rfl)) ?_
  try go_wp2
  go_ret
  exact ⟨by first | rfl | (simp [errW_none, errW_some] <;> rfl) | (simp [*, errW_none, errW_some] <;> rfl), by repeat (first | (with_reducible first | exact HB.out | apply below_alloc | apply pw_below_drewN | apply below_drew1 | refine below_set ?_ GE965.out) | exact HB.out)⟩

/-! ### laws_toGetting: function 52 -/
def laws_toGetting.f (k : Nat) (a0_0 : Int) (a0_1 : Int) (l0_2 : List Int) (l0_3 : List Int) (a0_4 : Int) (a0_5 : Int) (l0_6 : List (S102)) : Option (Int × Int × List Int × List Int × Int × Int × (List (S84))) := (laws_toPlan.f k a0_0 a0_1 l0_2 l0_3).bind fun bt972 => ((laws_toSolver.f k a0_4 a0_5 l0_6).bind fun bt980 => (some (bt972.1, bt972.2.1, bt972.2.2.1, bt972.2.2.2, bt980.1, bt980.2.1, bt980.2.2)))
theorem laws_toGetting.mono : ∀ a0 a1 a2 a3 a4 a5 a6 k, LeO (laws_toGetting.f k a0 a1 a2 a3 a4 a5 a6) (laws_toGetting.f (k + 1) a0 a1 a2 a3 a4 a5 a6) := by
 intro a0 a1 a2 a3 a4 a5 a6 k
 unfold laws_toGetting.f
 repeat' first
  | (with_reducible exact laws_toPlan.mono _ _ _ _ _)
  | (with_reducible exact laws_toSolver.mono _ _ _ _)
  | (with_reducible exact LeO.refl _)
  | (with_reducible exact LeO.none _)
  | (with_reducible refine LeO.ite ?_ ?_)
  | (with_reducible refine LeO.bind ?_ (fun _ => ?_))
  | exact laws_toPlan.mono _ _ _ _ _
  | exact laws_toSolver.mono _ _ _ _
  | exact LeO.none _
  | refine LeO.ite ?_ ?_
  | refine LeO.bind ?_ (fun _ => ?_)
set_option maxHeartbeats 8000000 in
set_option maxRecDepth 100000 in
theorem laws_toGetting.calls (k : Nat) (a0_0 : Int) (a0_1 : Int) (A0_2 : Option Addr) (c0_2 : Nat) (l0_2 : List Int) (A0_3 : Option Addr) (c0_3 : Nat) (l0_3 : List Int) (a0_4 : Int) (a0_5 : Int) (A0_6 : Option Addr) (c0_6 : Nat) (l0_6 : List (S102)) (r1 : Int) (r2 : Int) (r3 : List Int) (r4 : List Int) (r5 : Int) (r6 : Int) (r7 : List (S84)) (w : World) (hr0_2 : Kd.C (Kd.int .i64) w A0_2 l0_2.length l0_2) (hc0_2 : l0_2.length ≤ c0_2) (hr0_3 : Kd.C (Kd.int .i64) w A0_3 l0_3.length l0_3) (hc0_3 : l0_3.length ≤ c0_3) (hr0_6 : Kd.C k102 w A0_6 l0_6.length l0_6) (hc0_6 : l0_6.length ≤ c0_6) (h : laws_toGetting.f k a0_0 a0_1 l0_2 l0_3 a0_4 a0_5 l0_6 = some (r1, r2, r3, r4, r5, r6, r7)) :
 Calls Try.prog 52 #[.agg #[.int .i64 a0_0, .int .i64 a0_1, .slice A0_2 l0_2.length c0_2, .slice A0_3 l0_3.length c0_3, .int .i64 a0_4, .int .i64 a0_5, .slice A0_6 l0_6.length c0_6]] w fun e w' => ∃ v2_ v3_ v6_ : Value, e = .returned (.agg #[.int .i64 r1, .int .i64 r2, v2_, v3_, .int .i64 r5, .int .i64 r6, v6_]) ∧ Kd.R (Kd.int .i64) 3 w' w.heap.size (fun k_ => some k_ ≠ (v3_ : Value).ownBlock) v2_ r3 ∧ Kd.R (Kd.int .i64) 3 w' w.heap.size (fun k_ => some k_ ≠ (v2_ : Value).ownBlock) v3_ r4 ∧ Kd.S k84 84 w' w.heap.size (fun k_ => some k_ ≠ (v2_ : Value).ownBlock ∧ some k_ ≠ (v3_ : Value).ownBlock) v6_ r7 ∧ Below w.heap.size w w' := by
 have hu67 := Try.underlying67
 have hu61 := Try.underlying61
 have hu42 := Try.underlying42
 have hu46 := Try.underlying46
 have hu32 := Try.underlying32
 have hu37 := Try.underlying37
 have HR0_2 := Aside0.mk hr0_2
 have HC0_2 := Aside0.mk hc0_2
 clear hr0_2 hc0_2
 have HR0_3 := Aside0.mk hr0_3
 have HC0_3 := Aside0.mk hc0_3
 clear hr0_3 hc0_3
 have HR0_6 := Aside0.mk hr0_6
 have HC0_6 := Aside0.mk hc0_6
 clear hr0_6 hc0_6
 have HB := Aside0.mk (Below.refl w.heap.size w)
 have H : ((laws_toPlan.f k a0_0 a0_1 l0_2 l0_3).bind fun bt972 => ((laws_toSolver.f k a0_4 a0_5 l0_6).bind fun bt980 => (some (bt972.1, bt972.2.1, bt972.2.2.1, bt972.2.2.2, bt980.1, bt980.2.1, bt980.2.2)))) = some (r1, r2, r3, r4, r5, r6, r7) := h
 clear h
 replace H := bI_ H
 obtain ⟨⟨t972, t973, t974, t977⟩, A20, H⟩ := H
 replace H : ((laws_toSolver.f k a0_4 a0_5 l0_6).bind fun bt980 => (some (t972, t973, t974, t977, bt980.1, bt980.2.1, bt980.2.2))) = some (r1, r2, r3, r4, r5, r6, r7) := H
 have A2 := Aside0.mk A20
 clear A20
 replace H := bI_ H
 obtain ⟨⟨t980, t981, t982⟩, A30, H⟩ := H
 replace H : (some (t972, t973, t974, t977, t980, t981, t982)) = some (r1, r2, r3, r4, r5, r6, r7) := H
 have A3 := Aside0.mk A30
 clear A30
 simp only [Option.some.injEq, Prod.mk.injEq] at H
 obtain ⟨rfl, rfl, rfl, rfl, rfl, rfl, rfl⟩ := H
 go_enter Try.func52, Try.ntmps52
 go_wp2_with (first | ((with_reducible refine gate_dst (N := 1) rfl ?_); refine box_event ?hg (N := 1) ?hd (cs := #[.int .i64 a0_0, .int .i64 a0_1, .slice A0_2 l0_2.length c0_2, .slice A0_3 l0_3.length c0_3, .int .i64 a0_4, .int .i64 a0_5, .slice A0_6 l0_6.length c0_6]) (t := 67) ?hr ?_; (case hd => rfl); (case hg => rfl); (case hr => first | (go_simp; done) | (go_simp; rfl)); intro gb969 hg w4 hbox hb; have n0_ := Aside0.mk (below_step (by repeat (first | (with_reducible first | exact HB.out | apply below_alloc | apply pw_below_drewN | apply below_drew1) | exact HB.out)) hb); have n1_ := Aside0.mk (hbox); have n2_ := Aside0.mk ((by rw [hg]; exact (below_size (by repeat (first | (with_reducible first | exact HB.out | apply below_alloc | apply pw_below_drewN | apply below_drew1) | exact HB.out))) : w.heap.size ≤ gb969)); have n3_ := Aside0.mk ((by rw [hg]; exact (below_size (by repeat (first | (with_reducible first | exact HB.out | apply below_alloc | apply pw_below_drewN | apply below_drew1) | exact HB.out))) : w.heap.size ≤ gb969)); clear HB; have HB := n0_; have BK969 := n1_; have GW969 := n2_; have GE969 := n3_; clear n0_ n1_ n2_ n3_; clear hb hbox hg) | ((with_reducible refine gate_dst (N := 2) rfl ?_); refine box_event ?hg (N := 2) ?hd (cs := #[.int .i64 0, .int .i64 0, .slice none 0 0, .slice none 0 0, .int .i64 0, .int .i64 0, .slice none 0 0]) (t := 61) ?hr ?_; (case hd => rfl); (case hg => rfl); (case hr => first | (go_simp; done) | (go_simp; rfl)); intro gb970 hg w5 hbox hb; have n0_ := Aside0.mk (blk_below (g := gb969) (o := .cells #[.int .i64 a0_0, .int .i64 a0_1, .slice A0_2 l0_2.length c0_2, .slice A0_3 l0_3.length c0_3, .int .i64 a0_4, .int .i64 a0_5, .slice A0_6 l0_6.length c0_6] 67 (0, 0)) (by (with_reducible repeat (first | refine blk_drewN ?_ _ | refine blk_drew ?_ | refine blk_alloc ?_ _)); exact BK969.out) hb); have n1_ := Aside0.mk (below_step (by repeat (first | (with_reducible first | exact HB.out | apply below_alloc | apply pw_below_drewN | apply below_drew1 | refine below_set ?_ GE969.out) | exact HB.out)) hb); have n2_ := Aside0.mk (hbox); have n3_ := Aside0.mk ((by rw [hg]; exact (below_size (by repeat (first | (with_reducible first | exact HB.out | apply below_alloc | apply pw_below_drewN | apply below_drew1 | refine below_set ?_ GE969.out) | exact HB.out))) : w.heap.size ≤ gb970)); have n4_ := Aside0.mk ((by rw [hg]; exact (below_size (by repeat (first | (with_reducible first | exact HB.out | apply below_alloc | apply pw_below_drewN | apply below_drew1 | refine below_set ?_ GE969.out) | exact HB.out))) : w.heap.size ≤ gb970)); have n5_ := Aside0.mk ((by rw [hg]; exact Nat.ne_of_lt (blk_lt (g := gb969) (o := .cells #[.int .i64 a0_0, .int .i64 a0_1, .slice A0_2 l0_2.length c0_2, .slice A0_3 l0_3.length c0_3, .int .i64 a0_4, .int .i64 a0_5, .slice A0_6 l0_6.length c0_6] 67 (0, 0)) (by (with_reducible repeat (first | refine blk_drewN ?_ _ | refine blk_drew ?_ | refine blk_alloc ?_ _)); exact BK969.out)) : gb969 ≠ gb970)); have n6_ := Aside0.mk ((by rw [hg]; exact Nat.ne_of_gt (blk_lt (g := gb969) (o := .cells #[.int .i64 a0_0, .int .i64 a0_1, .slice A0_2 l0_2.length c0_2, .slice A0_3 l0_3.length c0_3, .int .i64 a0_4, .int .i64 a0_5, .slice A0_6 l0_6.length c0_6] 67 (0, 0)) (by (with_reducible repeat (first | refine blk_drewN ?_ _ | refine blk_drew ?_ | refine blk_alloc ?_ _)); exact BK969.out)) : gb970 ≠ gb969)); clear BK969; clear HB; have BK969 := n0_; have HB := n1_; have BK970 := n2_; have GW970 := n3_; have GE970 := n4_; have NB969_970 := n5_; have NB970_969 := n6_; clear n0_ n1_ n2_ n3_ n4_ n5_ n6_; clear hb hbox hg) | ((with_reducible refine gate_dst (N := 3) rfl ?_); refine box_event ?hg (N := 3) ?hd (cs := #[.int .i64 0, .int .i64 0, .slice none 0 0, .slice none 0 0, .int .i64 0, .int .i64 0, .slice none 0 0]) (t := 61) ?hr ?_; (case hd => rfl); (case hg => rfl); (case hr => first | (go_simp; done) | (go_simp; rfl)); intro gb971 hg w6 hbox hb; have n0_ := Aside0.mk (blk_below (g := gb969) (o := .cells #[.int .i64 a0_0, .int .i64 a0_1, .slice A0_2 l0_2.length c0_2, .slice A0_3 l0_3.length c0_3, .int .i64 a0_4, .int .i64 a0_5, .slice A0_6 l0_6.length c0_6] 67 (0, 0)) (by (with_reducible repeat (first | refine blk_drewN ?_ _ | refine blk_drew ?_ | refine blk_alloc ?_ _)); exact BK969.out) hb); have n1_ := Aside0.mk (blk_below (g := gb970) (o := .cells #[.int .i64 0, .int .i64 0, .slice none 0 0, .slice none 0 0, .int .i64 0, .int .i64 0, .slice none 0 0] 61 (0, 0)) (by (with_reducible repeat (first | refine blk_drewN ?_ _ | refine blk_drew ?_ | refine blk_alloc ?_ _)); exact BK970.out) hb); have n2_ := Aside0.mk (below_step (by repeat (first | (with_reducible first | exact HB.out | apply below_alloc | apply pw_below_drewN | apply below_drew1 | refine below_set ?_ GE969.out | refine below_set ?_ GE970.out) | exact HB.out)) hb); have n3_ := Aside0.mk (hbox); have n4_ := Aside0.mk ((by rw [hg]; exact (below_size (by repeat (first | (with_reducible first | exact HB.out | apply below_alloc | apply pw_below_drewN | apply below_drew1 | refine below_set ?_ GE969.out | refine below_set ?_ GE970.out) | exact HB.out))) : w.heap.size ≤ gb971)); have n5_ := Aside0.mk ((by rw [hg]; exact (below_size (by repeat (first | (with_reducible first | exact HB.out | apply below_alloc | apply pw_below_drewN | apply below_drew1 | refine below_set ?_ GE969.out | refine below_set ?_ GE970.out) | exact HB.out))) : w.heap.size ≤ gb971)); have n6_ := Aside0.mk ((by rw [hg]; exact Nat.ne_of_lt (blk_lt (g := gb969) (o := .cells #[.int .i64 a0_0, .int .i64 a0_1, .slice A0_2 l0_2.length c0_2, .slice A0_3 l0_3.length c0_3, .int .i64 a0_4, .int .i64 a0_5, .slice A0_6 l0_6.length c0_6] 67 (0, 0)) (by (with_reducible repeat (first | refine blk_drewN ?_ _ | refine blk_drew ?_ | refine blk_alloc ?_ _)); exact BK969.out)) : gb969 ≠ gb971)); have n7_ := Aside0.mk ((by rw [hg]; exact Nat.ne_of_gt (blk_lt (g := gb969) (o := .cells #[.int .i64 a0_0, .int .i64 a0_1, .slice A0_2 l0_2.length c0_2, .slice A0_3 l0_3.length c0_3, .int .i64 a0_4, .int .i64 a0_5, .slice A0_6 l0_6.length c0_6] 67 (0, 0)) (by (with_reducible repeat (first | refine blk_drewN ?_ _ | refine blk_drew ?_ | refine blk_alloc ?_ _)); exact BK969.out)) : gb971 ≠ gb969)); have n8_ := Aside0.mk ((by rw [hg]; exact Nat.ne_of_lt (blk_lt (g := gb970) (o := .cells #[.int .i64 0, .int .i64 0, .slice none 0 0, .slice none 0 0, .int .i64 0, .int .i64 0, .slice none 0 0] 61 (0, 0)) (by (with_reducible repeat (first | refine blk_drewN ?_ _ | refine blk_drew ?_ | refine blk_alloc ?_ _)); exact BK970.out)) : gb970 ≠ gb971)); have n9_ := Aside0.mk ((by rw [hg]; exact Nat.ne_of_gt (blk_lt (g := gb970) (o := .cells #[.int .i64 0, .int .i64 0, .slice none 0 0, .slice none 0 0, .int .i64 0, .int .i64 0, .slice none 0 0] 61 (0, 0)) (by (with_reducible repeat (first | refine blk_drewN ?_ _ | refine blk_drew ?_ | refine blk_alloc ?_ _)); exact BK970.out)) : gb971 ≠ gb970)); clear BK969; clear BK970; clear HB; have BK969 := n0_; have BK970 := n1_; have HB := n2_; have BK971 := n3_; have GW971 := n4_; have GE971 := n5_; have NB969_971 := n6_; have NB971_969 := n7_; have NB970_971 := n8_; have NB971_970 := n9_; clear n0_ n1_ n2_ n3_ n4_ n5_ n6_ n7_ n8_ n9_; clear hb hbox hg; have hnb7 := NB969_970.out; have hnc7 := NB970_969.out; have hnb8 := NB969_971.out; have hnc8 := NB971_969.out; have hcz9_0 : w6.cell? ⟨gb969, 0, none⟩ = some (.int .i64 a0_0) := (blk_cell BK969.out 0).trans rfl; have hcz9_1 : w6.cell? ⟨gb969, 1, none⟩ = some (.int .i64 a0_1) := (blk_cell BK969.out 1).trans rfl; have hcz9_2 : w6.cell? ⟨gb969, 2, none⟩ = some (.slice A0_2 l0_2.length c0_2) := (blk_cell BK969.out 2).trans rfl; have hcz9_3 : w6.cell? ⟨gb969, 3, none⟩ = some (.slice A0_3 l0_3.length c0_3) := (blk_cell BK969.out 3).trans rfl; have hcz9_4 : w6.cell? ⟨gb969, 4, none⟩ = some (.int .i64 a0_4) := (blk_cell BK969.out 4).trans rfl; have hcz9_5 : w6.cell? ⟨gb969, 5, none⟩ = some (.int .i64 a0_5) := (blk_cell BK969.out 5).trans rfl; have hcz9_6 : w6.cell? ⟨gb969, 6, none⟩ = some (.slice A0_6 l0_6.length c0_6) := (blk_cell BK969.out 6).trans rfl; have hfz9_0 := blk_frozen BK969.out 0; have hfz9_1 := blk_frozen BK969.out 1; have hfz9_2 := blk_frozen BK969.out 2; have hfz9_3 := blk_frozen BK969.out 3; have hfz9_4 := blk_frozen BK969.out 4; have hfz9_5 := blk_frozen BK969.out 5; have hfz9_6 := blk_frozen BK969.out 6) | ((with_reducible refine gate_callee (f := 29) rfl ?_); refine goesL_ (some 6) rfl rfl Try.func29 (by kernel_rfl) rfl #[.agg #[.int .i64 a0_0, .int .i64 a0_1, .slice A0_2 l0_2.length c0_2, .slice A0_3 l0_3.length c0_3]] rfl (by (try simp only [List.map_toArray, List.map_cons, List.map_nil]); first | done | rfl | (simp only [List.length_drop, List.length_take]; rfl)) ?_; (with_reducible refine (laws_toPlan.calls k a0_0 a0_1 _ _ l0_2 _ _ l0_3 t972 t973 t974 t977 _ ?side1 ?side2 ?side3 ?side4 A2.out).mono ?_); (case side1 => repeat (first | exact (Kd.C_below HR0_2.out HB.out) | (with_reducible refine Kd.C_alloc ?_ _) | (with_reducible refine Kd.C_drewN ?_ _) | (with_reducible refine Kd.C_drew ?_))); (case side2 => exact HC0_2.out); (case side3 => repeat (first | exact (Kd.C_below HR0_3.out HB.out) | (with_reducible refine Kd.C_alloc ?_ _) | (with_reducible refine Kd.C_drewN ?_ _) | (with_reducible refine Kd.C_drew ?_))); (case side4 => exact HC0_3.out); rintro e w10 ⟨v975, v978, rfl, ho0, ho1, hb⟩; refine ⟨_, rfl, ?_⟩; have n0_ := Aside0.mk (Kd.R_lower ho0 (below_size (by repeat (first | (with_reducible first | exact HB.out | apply below_alloc | apply pw_below_drewN | apply below_drew1 | refine below_set ?_ GE969.out | refine below_set ?_ GE970.out | refine below_set ?_ GE971.out) | exact HB.out)))); have n1_ := Aside0.mk (Kd.R_lower ho1 (below_size (by repeat (first | (with_reducible first | exact HB.out | apply below_alloc | apply pw_below_drewN | apply below_drew1 | refine below_set ?_ GE969.out | refine below_set ?_ GE970.out | refine below_set ?_ GE971.out) | exact HB.out)))); have n2_ := Aside0.mk (blk_below (g := gb969) (o := .cells #[.int .i64 a0_0, .int .i64 a0_1, .slice A0_2 l0_2.length c0_2, .slice A0_3 l0_3.length c0_3, .int .i64 a0_4, .int .i64 a0_5, .slice A0_6 l0_6.length c0_6] 67 (0, 0)) (by (with_reducible repeat (first | refine blk_drewN ?_ _ | refine blk_drew ?_ | refine blk_alloc ?_ _)); exact BK969.out) hb); have n3_ := Aside0.mk (blk_below (g := gb970) (o := .cells #[.int .i64 0, .int .i64 0, .slice none 0 0, .slice none 0 0, .int .i64 0, .int .i64 0, .slice none 0 0] 61 (0, 0)) (by (with_reducible repeat (first | refine blk_drewN ?_ _ | refine blk_drew ?_ | refine blk_alloc ?_ _)); exact BK970.out) hb); have n4_ := Aside0.mk (blk_below (g := gb971) (o := .cells #[.int .i64 0, .int .i64 0, .slice none 0 0, .slice none 0 0, .int .i64 0, .int .i64 0, .slice none 0 0] 61 (0, 0)) (by (with_reducible repeat (first | refine blk_drewN ?_ _ | refine blk_drew ?_ | refine blk_alloc ?_ _)); exact BK971.out) hb); have n5_ := Aside0.mk (below_step (by repeat (first | (with_reducible first | exact HB.out | apply below_alloc | apply pw_below_drewN | apply below_drew1 | refine below_set ?_ GE969.out | refine below_set ?_ GE970.out | refine below_set ?_ GE971.out) | exact HB.out)) hb); clear BK969; clear BK970; clear BK971; clear HB; have HO976 := n0_; have HO979 := n1_; have BK969 := n2_; have BK970 := n3_; have BK971 := n4_; have HB := n5_; clear n0_ n1_ n2_ n3_ n4_ n5_; (try clear hb); (try clear hb2); (try clear hk); (try clear hi); (try clear ho0); (try clear ho1); have hnb11 := NB971_970.out; have hnc11 := NB970_971.out; have hcz12_0 : w10.cell? ⟨gb971, 0, none⟩ = some (.int .i64 0) := (blk_cell BK971.out 0).trans rfl; have hcz12_1 : w10.cell? ⟨gb971, 1, none⟩ = some (.int .i64 0) := (blk_cell BK971.out 1).trans rfl; have hcz12_2 : w10.cell? ⟨gb971, 2, none⟩ = some (.slice none 0 0) := (blk_cell BK971.out 2).trans rfl; have hcz12_3 : w10.cell? ⟨gb971, 3, none⟩ = some (.slice none 0 0) := (blk_cell BK971.out 3).trans rfl; have hcz12_4 : w10.cell? ⟨gb971, 4, none⟩ = some (.int .i64 0) := (blk_cell BK971.out 4).trans rfl; have hcz12_5 : w10.cell? ⟨gb971, 5, none⟩ = some (.int .i64 0) := (blk_cell BK971.out 5).trans rfl; have hcz12_6 : w10.cell? ⟨gb971, 6, none⟩ = some (.slice none 0 0) := (blk_cell BK971.out 6).trans rfl; have hfz12_0 := blk_frozen BK971.out 0; have hfz12_1 := blk_frozen BK971.out 1; have hfz12_2 := blk_frozen BK971.out 2; have hfz12_3 := blk_frozen BK971.out 3; have hfz12_4 := blk_frozen BK971.out 4; have hfz12_5 := blk_frozen BK971.out 5; have hfz12_6 := blk_frozen BK971.out 6; obtain ⟨Ao13, co13, eo13⟩ := Kd.R_slice HO976.out; subst eo13; obtain ⟨Ao14, co14, eo14⟩ := Kd.R_slice HO979.out; subst eo14; have hcz15_0 : w10.cell? ⟨gb969, 0, none⟩ = some (.int .i64 a0_0) := (blk_cell BK969.out 0).trans rfl; have hcz15_1 : w10.cell? ⟨gb969, 1, none⟩ = some (.int .i64 a0_1) := (blk_cell BK969.out 1).trans rfl; have hcz15_2 : w10.cell? ⟨gb969, 2, none⟩ = some (.slice A0_2 l0_2.length c0_2) := (blk_cell BK969.out 2).trans rfl; have hcz15_3 : w10.cell? ⟨gb969, 3, none⟩ = some (.slice A0_3 l0_3.length c0_3) := (blk_cell BK969.out 3).trans rfl; have hcz15_4 : w10.cell? ⟨gb969, 4, none⟩ = some (.int .i64 a0_4) := (blk_cell BK969.out 4).trans rfl; have hcz15_5 : w10.cell? ⟨gb969, 5, none⟩ = some (.int .i64 a0_5) := (blk_cell BK969.out 5).trans rfl; have hcz15_6 : w10.cell? ⟨gb969, 6, none⟩ = some (.slice A0_6 l0_6.length c0_6) := (blk_cell BK969.out 6).trans rfl; have hfz15_0 := blk_frozen BK969.out 0; have hfz15_1 := blk_frozen BK969.out 1; have hfz15_2 := blk_frozen BK969.out 2; have hfz15_3 := blk_frozen BK969.out 3; have hfz15_4 := blk_frozen BK969.out 4; have hfz15_5 := blk_frozen BK969.out 5; have hfz15_6 := blk_frozen BK969.out 6) | ((with_reducible refine gate_callee (f := 24) rfl ?_); refine goesL_ (some 10) rfl rfl Try.func24 (by kernel_rfl) rfl #[.agg #[.int .i64 a0_4, .int .i64 a0_5, .slice A0_6 l0_6.length c0_6]] rfl (by (try simp only [List.map_toArray, List.map_cons, List.map_nil]); first | done | rfl | (simp only [List.length_drop, List.length_take]; rfl)) ?_; (with_reducible refine (laws_toSolver.calls k a0_4 a0_5 _ _ l0_6 t980 t981 t982 _ ?side1 ?side2 A3.out).mono ?_); (case side1 => exact Kd.C_below HR0_6.out (by repeat (first | (with_reducible first | exact HB.out | apply below_alloc | apply pw_below_drewN | apply below_drew1 | refine below_set ?_ GE969.out | refine below_set ?_ GE970.out | refine below_set ?_ GE971.out) | exact HB.out))); (case side2 => exact HC0_6.out); rintro e w16 ⟨v983, rfl, ho0, hb⟩; refine ⟨_, rfl, ?_⟩; have n0_ := Aside0.mk (Kd.R_below (by (with_reducible repeat (first | apply Kd.R_alloc | apply Kd.R_drewN | apply Kd.R_drew)); exact (Kd.R_mono (Kd.R_far (p := ⟨gb971, 3, none⟩) (Kd.R_far (p := ⟨gb971, 2, none⟩) (Kd.R_far (p := ⟨gb971, 1, none⟩) (Kd.R_far (p := ⟨gb971, 0, none⟩) (Kd.R_types HO976.out BK971.out (by decide)) (fun _ hk => hk.2) (.int .i64 t972)) (fun _ hk => hk.2) (.int .i64 t973)) (fun _ hk => hk.2) (.slice Ao13 t974.length co13)) (fun _ hk => hk.2) (.slice Ao14 t977.length co14)) (fun _ h_ => h_.1))) hb); have n1_ := Aside0.mk (Kd.R_below (by (with_reducible repeat (first | apply Kd.R_alloc | apply Kd.R_drewN | apply Kd.R_drew)); exact (Kd.R_mono (Kd.R_far (p := ⟨gb971, 3, none⟩) (Kd.R_far (p := ⟨gb971, 2, none⟩) (Kd.R_far (p := ⟨gb971, 1, none⟩) (Kd.R_far (p := ⟨gb971, 0, none⟩) (Kd.R_types HO979.out BK971.out (by decide)) (fun _ hk => hk.2) (.int .i64 t972)) (fun _ hk => hk.2) (.int .i64 t973)) (fun _ hk => hk.2) (.slice Ao13 t974.length co13)) (fun _ hk => hk.2) (.slice Ao14 t977.length co14)) (fun _ h_ => h_.1))) hb); have n2_ := Aside0.mk (Kd.S_lower (Kd.S_new' (Kd.S_new' ho0 (Kd.R_lt (by (with_reducible repeat (first | apply Kd.R_alloc | apply Kd.R_drewN | apply Kd.R_drew)); exact (Kd.R_mono (Kd.R_far (p := ⟨gb971, 3, none⟩) (Kd.R_far (p := ⟨gb971, 2, none⟩) (Kd.R_far (p := ⟨gb971, 1, none⟩) (Kd.R_far (p := ⟨gb971, 0, none⟩) (Kd.R_types HO976.out BK971.out (by decide)) (fun _ hk => hk.2) (.int .i64 t972)) (fun _ hk => hk.2) (.int .i64 t973)) (fun _ hk => hk.2) (.slice Ao13 t974.length co13)) (fun _ hk => hk.2) (.slice Ao14 t977.length co14)) (fun _ h_ => h_.1))))) (Kd.R_lt (by (with_reducible repeat (first | apply Kd.R_alloc | apply Kd.R_drewN | apply Kd.R_drew)); exact (Kd.R_mono (Kd.R_far (p := ⟨gb971, 3, none⟩) (Kd.R_far (p := ⟨gb971, 2, none⟩) (Kd.R_far (p := ⟨gb971, 1, none⟩) (Kd.R_far (p := ⟨gb971, 0, none⟩) (Kd.R_types HO979.out BK971.out (by decide)) (fun _ hk => hk.2) (.int .i64 t972)) (fun _ hk => hk.2) (.int .i64 t973)) (fun _ hk => hk.2) (.slice Ao13 t974.length co13)) (fun _ hk => hk.2) (.slice Ao14 t977.length co14)) (fun _ h_ => h_.1))))) (below_size (by repeat (first | (with_reducible first | exact HB.out | apply below_alloc | apply pw_below_drewN | apply below_drew1 | refine below_set ?_ GE969.out | refine below_set ?_ GE970.out | refine below_set ?_ GE971.out) | exact HB.out)))); have n3_ := Aside0.mk (blk_below (g := gb969) (o := .cells #[.int .i64 a0_0, .int .i64 a0_1, .slice A0_2 l0_2.length c0_2, .slice A0_3 l0_3.length c0_3, .int .i64 a0_4, .int .i64 a0_5, .slice A0_6 l0_6.length c0_6] 67 (0, 0)) (by (with_reducible repeat (first | refine blk_drewN ?_ _ | refine blk_drew ?_ | refine blk_alloc ?_ _)); refine blk_far ?_ NB969_971.out _; (with_reducible repeat (first | refine blk_drewN ?_ _ | refine blk_drew ?_ | refine blk_alloc ?_ _)); refine blk_far ?_ NB969_971.out _; (with_reducible repeat (first | refine blk_drewN ?_ _ | refine blk_drew ?_ | refine blk_alloc ?_ _)); refine blk_far ?_ NB969_971.out _; (with_reducible repeat (first | refine blk_drewN ?_ _ | refine blk_drew ?_ | refine blk_alloc ?_ _)); refine blk_far ?_ NB969_971.out _; (with_reducible repeat (first | refine blk_drewN ?_ _ | refine blk_drew ?_ | refine blk_alloc ?_ _)); exact BK969.out) hb); have n4_ := Aside0.mk (blk_below (g := gb970) (o := .cells #[.int .i64 0, .int .i64 0, .slice none 0 0, .slice none 0 0, .int .i64 0, .int .i64 0, .slice none 0 0] 61 (0, 0)) (by (with_reducible repeat (first | refine blk_drewN ?_ _ | refine blk_drew ?_ | refine blk_alloc ?_ _)); refine blk_far ?_ NB970_971.out _; (with_reducible repeat (first | refine blk_drewN ?_ _ | refine blk_drew ?_ | refine blk_alloc ?_ _)); refine blk_far ?_ NB970_971.out _; (with_reducible repeat (first | refine blk_drewN ?_ _ | refine blk_drew ?_ | refine blk_alloc ?_ _)); refine blk_far ?_ NB970_971.out _; (with_reducible repeat (first | refine blk_drewN ?_ _ | refine blk_drew ?_ | refine blk_alloc ?_ _)); refine blk_far ?_ NB970_971.out _; (with_reducible repeat (first | refine blk_drewN ?_ _ | refine blk_drew ?_ | refine blk_alloc ?_ _)); exact BK970.out) hb); have n5_ := Aside0.mk (blk_below (g := gb971) (o := .cells #[.int .i64 t972, .int .i64 t973, .slice Ao13 t974.length co13, .slice Ao14 t977.length co14, .int .i64 0, .int .i64 0, .slice none 0 0] 61 (0, 0)) (by (with_reducible repeat (first | refine blk_drewN ?_ _ | refine blk_drew ?_ | refine blk_alloc ?_ _)); refine blk_put (cs := #[.int .i64 t972, .int .i64 t973, .slice Ao13 t974.length co13, .slice none 0 0, .int .i64 0, .int .i64 0, .slice none 0 0]) ?_ 3 _ rfl; (with_reducible repeat (first | refine blk_drewN ?_ _ | refine blk_drew ?_ | refine blk_alloc ?_ _)); refine blk_put (cs := #[.int .i64 t972, .int .i64 t973, .slice none 0 0, .slice none 0 0, .int .i64 0, .int .i64 0, .slice none 0 0]) ?_ 2 _ rfl; (with_reducible repeat (first | refine blk_drewN ?_ _ | refine blk_drew ?_ | refine blk_alloc ?_ _)); refine blk_put (cs := #[.int .i64 t972, .int .i64 0, .slice none 0 0, .slice none 0 0, .int .i64 0, .int .i64 0, .slice none 0 0]) ?_ 1 _ rfl; (with_reducible repeat (first | refine blk_drewN ?_ _ | refine blk_drew ?_ | refine blk_alloc ?_ _)); refine blk_put (cs := #[.int .i64 0, .int .i64 0, .slice none 0 0, .slice none 0 0, .int .i64 0, .int .i64 0, .slice none 0 0]) ?_ 0 _ rfl; (with_reducible repeat (first | refine blk_drewN ?_ _ | refine blk_drew ?_ | refine blk_alloc ?_ _)); exact BK971.out) hb); have n6_ := Aside0.mk (below_step (by repeat (first | (with_reducible first | exact HB.out | apply below_alloc | apply pw_below_drewN | apply below_drew1 | refine below_set ?_ GE969.out | refine below_set ?_ GE970.out | refine below_set ?_ GE971.out) | exact HB.out)) hb); clear HO976; clear HO979; clear BK969; clear BK970; clear BK971; clear HB; have HO976 := n0_; have HO979 := n1_; have HO984 := n2_; have BK969 := n3_; have BK970 := n4_; have BK971 := n5_; have HB := n6_; clear n0_ n1_ n2_ n3_ n4_ n5_ n6_; (try clear hb); (try clear hb2); (try clear hk); (try clear hi); (try clear ho0); have hcz17_0 : w16.cell? ⟨gb971, 0, none⟩ = some (.int .i64 t972) := (blk_cell BK971.out 0).trans rfl; have hcz17_1 : w16.cell? ⟨gb971, 1, none⟩ = some (.int .i64 t973) := (blk_cell BK971.out 1).trans rfl; have hcz17_2 : w16.cell? ⟨gb971, 2, none⟩ = some (.slice Ao13 t974.length co13) := (blk_cell BK971.out 2).trans rfl; have hcz17_3 : w16.cell? ⟨gb971, 3, none⟩ = some (.slice Ao14 t977.length co14) := (blk_cell BK971.out 3).trans rfl; have hcz17_4 : w16.cell? ⟨gb971, 4, none⟩ = some (.int .i64 0) := (blk_cell BK971.out 4).trans rfl; have hcz17_5 : w16.cell? ⟨gb971, 5, none⟩ = some (.int .i64 0) := (blk_cell BK971.out 5).trans rfl; have hcz17_6 : w16.cell? ⟨gb971, 6, none⟩ = some (.slice none 0 0) := (blk_cell BK971.out 6).trans rfl; have hfz17_0 := blk_frozen BK971.out 0; have hfz17_1 := blk_frozen BK971.out 1; have hfz17_2 := blk_frozen BK971.out 2; have hfz17_3 := blk_frozen BK971.out 3; have hfz17_4 := blk_frozen BK971.out 4; have hfz17_5 := blk_frozen BK971.out 5; have hfz17_6 := blk_frozen BK971.out 6; obtain ⟨Ao18, co18, eo18⟩ := Kd.S_slice HO984.out; subst eo18; have hcz19_0 : w16.cell? ⟨gb970, 0, none⟩ = some (.int .i64 0) := (blk_cell BK970.out 0).trans rfl; have hcz19_1 : w16.cell? ⟨gb970, 1, none⟩ = some (.int .i64 0) := (blk_cell BK970.out 1).trans rfl; have hcz19_2 : w16.cell? ⟨gb970, 2, none⟩ = some (.slice none 0 0) := (blk_cell BK970.out 2).trans rfl; have hcz19_3 : w16.cell? ⟨gb970, 3, none⟩ = some (.slice none 0 0) := (blk_cell BK970.out 3).trans rfl; have hcz19_4 : w16.cell? ⟨gb970, 4, none⟩ = some (.int .i64 0) := (blk_cell BK970.out 4).trans rfl; have hcz19_5 : w16.cell? ⟨gb970, 5, none⟩ = some (.int .i64 0) := (blk_cell BK970.out 5).trans rfl; have hcz19_6 : w16.cell? ⟨gb970, 6, none⟩ = some (.slice none 0 0) := (blk_cell BK970.out 6).trans rfl; have hfz19_0 := blk_frozen BK970.out 0; have hfz19_1 := blk_frozen BK970.out 1; have hfz19_2 := blk_frozen BK970.out 2; have hfz19_3 := blk_frozen BK970.out 3; have hfz19_4 := blk_frozen BK970.out 4; have hfz19_5 := blk_frozen BK970.out 5; have hfz19_6 := blk_frozen BK970.out 6))
 refine bodyPost_ret (results_cell_row rfl _ _ gb970 61 #[.int .i64 t972, .int .i64 t973, .slice Ao13 t974.length co13, .slice Ao14 t977.length co14, .int .i64 t980, .int .i64 t981, .slice Ao18 t982.length co18] (0, 0) _ rfl (by (with_reducible repeat (first | refine blk_drewN ?_ _ | refine blk_drew ?_ | refine blk_alloc ?_ _)); refine blk_put (cs := #[.int .i64 t972, .int .i64 t973, .slice Ao13 t974.length co13, .slice Ao14 t977.length co14, .int .i64 t980, .int .i64 t981, .slice none 0 0]) ?_ 6 _ rfl; (with_reducible repeat (first | refine blk_drewN ?_ _ | refine blk_drew ?_ | refine blk_alloc ?_ _)); refine blk_put (cs := #[.int .i64 t972, .int .i64 t973, .slice Ao13 t974.length co13, .slice Ao14 t977.length co14, .int .i64 t980, .int .i64 0, .slice none 0 0]) ?_ 5 _ rfl; (with_reducible repeat (first | refine blk_drewN ?_ _ | refine blk_drew ?_ | refine blk_alloc ?_ _)); refine blk_put (cs := #[.int .i64 t972, .int .i64 t973, .slice Ao13 t974.length co13, .slice Ao14 t977.length co14, .int .i64 0, .int .i64 0, .slice none 0 0]) ?_ 4 _ rfl; (with_reducible repeat (first | refine blk_drewN ?_ _ | refine blk_drew ?_ | refine blk_alloc ?_ _)); refine blk_put (cs := #[.int .i64 t972, .int .i64 t973, .slice Ao13 t974.length co13, .slice none 0 0, .int .i64 0, .int .i64 0, .slice none 0 0]) ?_ 3 _ rfl; (with_reducible repeat (first | refine blk_drewN ?_ _ | refine blk_drew ?_ | refine blk_alloc ?_ _)); refine blk_put (cs := #[.int .i64 t972, .int .i64 t973, .slice none 0 0, .slice none 0 0, .int .i64 0, .int .i64 0, .slice none 0 0]) ?_ 2 _ rfl; (with_reducible repeat (first | refine blk_drewN ?_ _ | refine blk_drew ?_ | refine blk_alloc ?_ _)); refine blk_put (cs := #[.int .i64 t972, .int .i64 0, .slice none 0 0, .slice none 0 0, .int .i64 0, .int .i64 0, .slice none 0 0]) ?_ 1 _ rfl; (with_reducible repeat (first | refine blk_drewN ?_ _ | refine blk_drew ?_ | refine blk_alloc ?_ _)); refine blk_put (cs := #[.int .i64 0, .int .i64 0, .slice none 0 0, .slice none 0 0, .int .i64 0, .int .i64 0, .slice none 0 0]) ?_ 0 _ rfl; (with_reducible repeat (first | refine blk_drewN ?_ _ | refine blk_drew ?_ | refine blk_alloc ?_ _)); refine blk_far ?_ NB970_971.out _; (with_reducible repeat (first | refine blk_drewN ?_ _ | refine blk_drew ?_ | refine blk_alloc ?_ _)); refine blk_far ?_ NB970_971.out _; (with_reducible repeat (first | refine blk_drewN ?_ _ | refine blk_drew ?_ | refine blk_alloc ?_ _)); refine blk_far ?_ NB970_971.out _; (with_reducible repeat (first | refine blk_drewN ?_ _ | refine blk_drew ?_ | refine blk_alloc ?_ _)); exact BK970.out) Try.underlying61 rfl (by kernel_rfl)) rfl ?_
 exact ⟨_, _, _, by first | rfl | (simp [errW_none, errW_some] <;> rfl) | (simp [*, errW_none, errW_some] <;> rfl), by (with_reducible repeat (first | apply Kd.R_alloc | apply Kd.R_drewN | apply Kd.R_drew)); exact Kd.R_mono (Kd.R_far (p := ⟨gb970, 6, none⟩) (Kd.R_far (p := ⟨gb970, 5, none⟩) (Kd.R_far (p := ⟨gb970, 4, none⟩) (Kd.R_far (p := ⟨gb970, 3, none⟩) (Kd.R_far (p := ⟨gb970, 2, none⟩) (Kd.R_far (p := ⟨gb970, 1, none⟩) (Kd.R_far (p := ⟨gb970, 0, none⟩) (Kd.R_far (p := ⟨gb971, 6, none⟩) (Kd.R_far (p := ⟨gb971, 5, none⟩) (Kd.R_far (p := ⟨gb971, 4, none⟩) (Kd.R_types (Kd.R_types HO976.out BK971.out (by decide)) BK970.out (by decide)) (fun _ hk => hk.1.2) (.int .i64 t980)) (fun _ hk => hk.1.2) (.int .i64 t981)) (fun _ hk => hk.1.2) (.slice Ao18 t982.length co18)) (fun _ hk => hk.2) (.int .i64 t972)) (fun _ hk => hk.2) (.int .i64 t973)) (fun _ hk => hk.2) (.slice Ao13 t974.length co13)) (fun _ hk => hk.2) (.slice Ao14 t977.length co14)) (fun _ hk => hk.2) (.int .i64 t980)) (fun _ hk => hk.2) (.int .i64 t981)) (fun _ hk => hk.2) (.slice Ao18 t982.length co18)) (fun _ hk => hk.1.1), by (with_reducible repeat (first | apply Kd.R_alloc | apply Kd.R_drewN | apply Kd.R_drew)); exact Kd.R_mono (Kd.R_far (p := ⟨gb970, 6, none⟩) (Kd.R_far (p := ⟨gb970, 5, none⟩) (Kd.R_far (p := ⟨gb970, 4, none⟩) (Kd.R_far (p := ⟨gb970, 3, none⟩) (Kd.R_far (p := ⟨gb970, 2, none⟩) (Kd.R_far (p := ⟨gb970, 1, none⟩) (Kd.R_far (p := ⟨gb970, 0, none⟩) (Kd.R_far (p := ⟨gb971, 6, none⟩) (Kd.R_far (p := ⟨gb971, 5, none⟩) (Kd.R_far (p := ⟨gb971, 4, none⟩) (Kd.R_types (Kd.R_types HO979.out BK971.out (by decide)) BK970.out (by decide)) (fun _ hk => hk.1.2) (.int .i64 t980)) (fun _ hk => hk.1.2) (.int .i64 t981)) (fun _ hk => hk.1.2) (.slice Ao18 t982.length co18)) (fun _ hk => hk.2) (.int .i64 t972)) (fun _ hk => hk.2) (.int .i64 t973)) (fun _ hk => hk.2) (.slice Ao13 t974.length co13)) (fun _ hk => hk.2) (.slice Ao14 t977.length co14)) (fun _ hk => hk.2) (.int .i64 t980)) (fun _ hk => hk.2) (.int .i64 t981)) (fun _ hk => hk.2) (.slice Ao18 t982.length co18)) (fun _ hk => hk.1.1), by (with_reducible repeat (first | apply Kd.S_alloc | apply Kd.S_drewN | apply Kd.S_drew)); exact Kd.S_mono (Kd.S_far (p := ⟨gb970, 6, none⟩) (Kd.S_far (p := ⟨gb970, 5, none⟩) (Kd.S_far (p := ⟨gb970, 4, none⟩) (Kd.S_far (p := ⟨gb970, 3, none⟩) (Kd.S_far (p := ⟨gb970, 2, none⟩) (Kd.S_far (p := ⟨gb970, 1, none⟩) (Kd.S_far (p := ⟨gb970, 0, none⟩) (Kd.S_far (p := ⟨gb971, 6, none⟩) (Kd.S_far (p := ⟨gb971, 5, none⟩) (Kd.S_far (p := ⟨gb971, 4, none⟩) (Kd.S_types (Kd.S_types HO984.out BK971.out (by decide)) BK970.out (by decide)) (fun _ hk => hk.1.2) (.int .i64 t980)) (fun _ hk => hk.1.2) (.int .i64 t981)) (fun _ hk => hk.1.2) (.slice Ao18 t982.length co18)) (fun _ hk => hk.2) (.int .i64 t972)) (fun _ hk => hk.2) (.int .i64 t973)) (fun _ hk => hk.2) (.slice Ao13 t974.length co13)) (fun _ hk => hk.2) (.slice Ao14 t977.length co14)) (fun _ hk => hk.2) (.int .i64 t980)) (fun _ hk => hk.2) (.int .i64 t981)) (fun _ hk => hk.2) (.slice Ao18 t982.length co18)) (fun _ hk => ⟨hk.1.1.1.2, hk.1.1.2⟩), by repeat (first | (with_reducible first | exact HB.out | apply below_alloc | apply pw_below_drewN | apply below_drew1 | refine below_set ?_ GE969.out | refine below_set ?_ GE970.out | refine below_set ?_ GE971.out) | exact HB.out)⟩

end Go.Proofs.Ytaeeickboakmgaa.X
