/- Printed for this claim by the session's program (the kit's printer, several laws in one place): the functions that the law reaches, each as a plain Lean function, and the proof that the Go code comes to its answers. Conditions: none beside those that each theorem states. -/
import Derived.Test.YtaeeickboakmgaaXx0
import Derived.Test.YtaeeickboakmgaaXx4
import Derived.Test.YtaeeickboakmgaaXx15
import Derived.Test.YtaeeickboakmgaaXx16
import Derived.Test.YtaeeickboakmgaaXx27
import Derived.Test.YtaeeickboakmgaaWAll
namespace Go.Proofs.Ytaeeickboakmgaa.X
open Go.RowKit Go.Proofs.YtaeeickboakmgaaW.PrintWords Go.Proofs.YtaeeickboakmgaaW.PrintLast Go.Proofs.YtaeeickboakmgaaW.PrintStep Go.Proofs.YtaeeickboakmgaaW.PrintMore
attribute [local go_sem] max2_int min2_int max_two min_two max_three min_three max_four min_four   -- for this text's walks alone
set_option linter.unusedVariables false
set_option linter.unusedSimpArgs false

/-! ### spec_SolverNew: function 89 -/
def spec_SolverNew.f (a0 : Int) (a1 : Int) : Option (Int × Int × (List (S84))) := (spec_l1In.f a0 1 24).bind fun t793 => (if t793 = true then ((spec_l1In.f a1 1 16).bind fun t794 => (if t794 = true then (some (a0, a1, ([] : List (S84)))) else (some (0, 0, ([] : List (S84)))))) else (some (0, 0, ([] : List (S84)))))
set_option maxHeartbeats 8000000 in
set_option maxRecDepth 100000 in
theorem spec_SolverNew.calls (a0 : Int) (a1 : Int) (r1 : Int) (r2 : Int) (r3 : List (S84)) (w : World) (h : spec_SolverNew.f a0 a1 = some (r1, r2, r3)) :
 Calls Try.prog 89 #[.int .i64 a0, .int .i64 a1] w fun e w' => ∃ v2_ : Value, e = .returned (.agg #[.int .i64 r1, .int .i64 r2, v2_]) ∧ Kd.S k84 84 w' w.heap.size (fun _ => True) v2_ r3 ∧ Below w.heap.size w w' := by
 have hu37 := Try.underlying37
 have HB := Aside0.mk (Below.refl w.heap.size w)
 have H : ((spec_l1In.f a0 1 24).bind fun t793 => (if t793 = true then ((spec_l1In.f a1 1 16).bind fun t794 => (if t794 = true then (some (a0, a1, ([] : List (S84)))) else (some (0, 0, ([] : List (S84)))))) else (some (0, 0, ([] : List (S84)))))) = some (r1, r2, r3) := h
 clear h
 replace H := bI_ H
 obtain ⟨t793, A30, H⟩ := H
 replace H : (if t793 = true then ((spec_l1In.f a1 1 16).bind fun t794 => (if t794 = true then (some (a0, a1, ([] : List (S84)))) else (some (0, 0, ([] : List (S84)))))) else (some (0, 0, ([] : List (S84))))) = some (r1, r2, r3) := H
 have A3 := Aside0.mk A30
 clear A30
 by_cases c4 : t793 = true
 ·subst c4
  have H1 : ((spec_l1In.f a1 1 16).bind fun t794 => (if t794 = true then (some (a0, a1, ([] : List (S84)))) else (some (0, 0, ([] : List (S84)))))) = some (r1, r2, r3) := by rw [if_pos rfl] at H; exact H
  clear H
  have H := H1
  clear H1
  replace H := bI_ H
  obtain ⟨t794, A50, H⟩ := H
  replace H : (if t794 = true then (some (a0, a1, ([] : List (S84)))) else (some (0, 0, ([] : List (S84))))) = some (r1, r2, r3) := H
  have A5 := Aside0.mk A50
  clear A50
  by_cases c6 : t794 = true
  ·subst c6
   have H1 : (some (a0, a1, ([] : List (S84)))) = some (r1, r2, r3) := by rw [if_pos rfl] at H; exact H
   clear H
   have H := H1
   clear H1
   simp only [Option.some.injEq, Prod.mk.injEq] at H
   obtain ⟨rfl, rfl, rfl⟩ := H
   go_enter Try.func89, Try.ntmps89
   go_wp2_with (first | ((with_reducible refine gate_dst (N := 4) rfl ?_); refine box_event ?hg (N := 4) ?hd (cs := #[.int .i64 0, .int .i64 0, .slice none 0 0]) (t := 37) ?hr ?_; (case hd => rfl); (case hg => rfl); (case hr => first | (go_simp; done) | (go_simp; rfl)); intro gb792 hg w7 hbox hb; have n0_ := Aside0.mk (below_step (gB HB.out) hb); have n1_ := Aside0.mk (hbox); have n2_ := Aside0.mk ((by rw [hg]; exact (below_size (gB HB.out)) : w.heap.size ≤ gb792)); have n3_ := n2_; clear HB; have HB := n0_; have BK792 := n1_; have GW792 := n2_; have GE792 := n3_; clear n0_ n1_ n2_ n3_; clear hb hbox hg) | ((with_reducible refine gate_callee (f := 67) rfl ?_); refine goesL_ (some 6) rfl rfl Try.func67 (by kernel_rfl) rfl #[.int .i64 a0, .int .i64 1, .int .i64 24] rfl (by (try simp only [List.map_toArray, List.map_cons, List.map_nil]); first | done | rfl | (simp only [List.length_drop, List.length_take]; rfl)) ?_; (with_reducible refine (spec_l1In.calls a0 1 24 true _ A3.out).mono ?_); rintro e w' ⟨rfl, ⟨nd, rfl⟩⟩; refine ⟨_, rfl, ?_⟩; (try (rw [drewN_self w7]; generalize hq_ : World.drewN w7 _ = w7; have n0_ : Aside0 (w7.heap[gb792]? = some (.cells #[.int .i64 0, .int .i64 0, .slice none 0 0] 37 (0, 0))) := ⟨by rw [← hq_]; exact (gK BK792.out)⟩; have n1_ : Aside0 (Below w.heap.size w w7) := ⟨by rw [← hq_]; exact (gB HB.out)⟩; clear BK792 HB hq_; have BK792 := n0_; have HB := n1_; clear n0_ n1_))) | (go_at_call 67; (with_reducible refine (spec_l1In.calls a1 1 16 true _ A5.out).mono ?_); rintro e w' ⟨rfl, ⟨nd, rfl⟩⟩; (try (rw [drewN_self w7]; generalize hq_ : World.drewN w7 _ = w7; have n0_ : Aside0 (w7.heap[gb792]? = some (.cells #[.int .i64 0, .int .i64 0, .slice none 0 0] 37 (0, 0))) := ⟨by rw [← hq_]; exact (gK BK792.out)⟩; have n1_ : Aside0 (Below w.heap.size w w7) := ⟨by rw [← hq_]; exact (gB HB.out)⟩; clear BK792 HB hq_; have BK792 := n0_; have HB := n1_; clear n0_ n1_)); have hcz8_0 := cz_ BK792.out 0 rfl; have hcz8_1 := cz_ BK792.out 1 rfl; have hcz8_2 := cz_ BK792.out 2 rfl; have hfz8_0 := blk_frozen BK792.out 0; have hfz8_1 := blk_frozen BK792.out 1; have hfz8_2 := blk_frozen BK792.out 2))
   refine bodyPost_ret (results_cell_row rfl _ _ gb792 37 #[.int .i64 a0, .int .i64 a1, .slice none 0 0] (0, 0) _ rfl (by (with_reducible repeat (first | refine blk_drewN ?_ _ | refine blk_drew ?_ | refine blk_alloc ?_ _)); refine blk_put (cs := #[.int .i64 a0, .int .i64 a1, .slice none 0 0]) ?_ 2 _ rfl; (with_reducible repeat (first | refine blk_drewN ?_ _ | refine blk_drew ?_ | refine blk_alloc ?_ _)); refine blk_put (cs := #[.int .i64 a0, .int .i64 0, .slice none 0 0]) ?_ 1 _ rfl; (with_reducible repeat (first | refine blk_drewN ?_ _ | refine blk_drew ?_ | refine blk_alloc ?_ _)); refine blk_put (cs := #[.int .i64 0, .int .i64 0, .slice none 0 0]) ?_ 0 _ rfl; (with_reducible repeat (first | refine blk_drewN ?_ _ | refine blk_drew ?_ | refine blk_alloc ?_ _)); exact BK792.out) Try.underlying37 rfl (by kernel_rfl)) rfl ?_
   exact ⟨_, by first | rfl | (simp [errW_none, errW_some] <;> rfl) | (simp [*, errW_none, errW_some] <;> rfl), by first | exact Kd.S_nil _ _ _ _ _ | exact Kd.N_nil _ _ _ _ _ | exact Kd.V_nil _ _ _ _ _ | exact Kd.Q_nil _ _ _ _ _ | exact Kd.R_nil _ _ _ _ _, by repeat (first | (with_reducible first | exact HB.out | apply below_alloc | apply pw_below_drewN | apply below_drew1 | refine below_set ?_ GE792.out) | exact HB.out)⟩
  ·replace c6 := Bool.eq_false_iff.mpr c6
   subst c6
   have H1 : (some (0, 0, ([] : List (S84)))) = some (r1, r2, r3) := by rw [if_neg (show ¬ (false = true) by decide)] at H; exact H
   clear H
   have H := H1
   clear H1
   simp only [Option.some.injEq, Prod.mk.injEq] at H
   obtain ⟨rfl, rfl, rfl⟩ := H
   go_enter Try.func89, Try.ntmps89
   go_wp2_with (first | ((with_reducible refine gate_dst (N := 4) rfl ?_); refine box_event ?hg (N := 4) ?hd (cs := #[.int .i64 0, .int .i64 0, .slice none 0 0]) (t := 37) ?hr ?_; (case hd => rfl); (case hg => rfl); (case hr => first | (go_simp; done) | (go_simp; rfl)); intro gb792 hg w9 hbox hb; have n0_ := Aside0.mk (below_step (gB HB.out) hb); have n1_ := Aside0.mk (hbox); have n2_ := Aside0.mk ((by rw [hg]; exact (below_size (gB HB.out)) : w.heap.size ≤ gb792)); have n3_ := n2_; clear HB; have HB := n0_; have BK792 := n1_; have GW792 := n2_; have GE792 := n3_; clear n0_ n1_ n2_ n3_; clear hb hbox hg) | ((with_reducible refine gate_callee (f := 67) rfl ?_); refine goesL_ (some 6) rfl rfl Try.func67 (by kernel_rfl) rfl #[.int .i64 a0, .int .i64 1, .int .i64 24] rfl (by (try simp only [List.map_toArray, List.map_cons, List.map_nil]); first | done | rfl | (simp only [List.length_drop, List.length_take]; rfl)) ?_; (with_reducible refine (spec_l1In.calls a0 1 24 true _ A3.out).mono ?_); rintro e w' ⟨rfl, ⟨nd, rfl⟩⟩; refine ⟨_, rfl, ?_⟩; (try (rw [drewN_self w9]; generalize hq_ : World.drewN w9 _ = w9; have n0_ : Aside0 (w9.heap[gb792]? = some (.cells #[.int .i64 0, .int .i64 0, .slice none 0 0] 37 (0, 0))) := ⟨by rw [← hq_]; exact (gK BK792.out)⟩; have n1_ : Aside0 (Below w.heap.size w w9) := ⟨by rw [← hq_]; exact (gB HB.out)⟩; clear BK792 HB hq_; have BK792 := n0_; have HB := n1_; clear n0_ n1_))) | (go_at_call 67; (with_reducible refine (spec_l1In.calls a1 1 16 false _ A5.out).mono ?_); rintro e w' ⟨rfl, ⟨nd, rfl⟩⟩; (try (rw [drewN_self w9]; generalize hq_ : World.drewN w9 _ = w9; have n0_ : Aside0 (w9.heap[gb792]? = some (.cells #[.int .i64 0, .int .i64 0, .slice none 0 0] 37 (0, 0))) := ⟨by rw [← hq_]; exact (gK BK792.out)⟩; have n1_ : Aside0 (Below w.heap.size w w9) := ⟨by rw [← hq_]; exact (gB HB.out)⟩; clear BK792 HB hq_; have BK792 := n0_; have HB := n1_; clear n0_ n1_)); have hcz10_0 := cz_ BK792.out 0 rfl; have hcz10_1 := cz_ BK792.out 1 rfl; have hcz10_2 := cz_ BK792.out 2 rfl; have hfz10_0 := blk_frozen BK792.out 0; have hfz10_1 := blk_frozen BK792.out 1; have hfz10_2 := blk_frozen BK792.out 2))
   refine bodyPost_ret (results_cell_row rfl _ _ gb792 37 #[.int .i64 0, .int .i64 0, .slice none 0 0] (0, 0) _ rfl (by (with_reducible repeat (first | refine blk_drewN ?_ _ | refine blk_drew ?_ | refine blk_alloc ?_ _)); refine blk_put (cs := #[.int .i64 0, .int .i64 0, .slice none 0 0]) ?_ 2 _ rfl; (with_reducible repeat (first | refine blk_drewN ?_ _ | refine blk_drew ?_ | refine blk_alloc ?_ _)); refine blk_put (cs := #[.int .i64 0, .int .i64 0, .slice none 0 0]) ?_ 1 _ rfl; (with_reducible repeat (first | refine blk_drewN ?_ _ | refine blk_drew ?_ | refine blk_alloc ?_ _)); refine blk_put (cs := #[.int .i64 0, .int .i64 0, .slice none 0 0]) ?_ 0 _ rfl; (with_reducible repeat (first | refine blk_drewN ?_ _ | refine blk_drew ?_ | refine blk_alloc ?_ _)); exact BK792.out) Try.underlying37 rfl (by kernel_rfl)) rfl ?_
   exact ⟨_, by first | rfl | (simp [errW_none, errW_some] <;> rfl) | (simp [*, errW_none, errW_some] <;> rfl), by first | exact Kd.S_nil _ _ _ _ _ | exact Kd.N_nil _ _ _ _ _ | exact Kd.V_nil _ _ _ _ _ | exact Kd.Q_nil _ _ _ _ _ | exact Kd.R_nil _ _ _ _ _, by repeat (first | (with_reducible first | exact HB.out | apply below_alloc | apply pw_below_drewN | apply below_drew1 | refine below_set ?_ GE792.out) | exact HB.out)⟩
 ·replace c4 := Bool.eq_false_iff.mpr c4
  subst c4
  have H1 : (some (0, 0, ([] : List (S84)))) = some (r1, r2, r3) := by rw [if_neg (show ¬ (false = true) by decide)] at H; exact H
  clear H
  have H := H1
  clear H1
  simp only [Option.some.injEq, Prod.mk.injEq] at H
  obtain ⟨rfl, rfl, rfl⟩ := H
  go_enter Try.func89, Try.ntmps89
  go_wp2_with (first | ((with_reducible refine gate_dst (N := 4) rfl ?_); refine box_event ?hg (N := 4) ?hd (cs := #[.int .i64 0, .int .i64 0, .slice none 0 0]) (t := 37) ?hr ?_; (case hd => rfl); (case hg => rfl); (case hr => first | (go_simp; done) | (go_simp; rfl)); intro gb792 hg w11 hbox hb; have n0_ := Aside0.mk (below_step (gB HB.out) hb); have n1_ := Aside0.mk (hbox); have n2_ := Aside0.mk ((by rw [hg]; exact (below_size (gB HB.out)) : w.heap.size ≤ gb792)); have n3_ := n2_; clear HB; have HB := n0_; have BK792 := n1_; have GW792 := n2_; have GE792 := n3_; clear n0_ n1_ n2_ n3_; clear hb hbox hg) | ((with_reducible refine gate_callee (f := 67) rfl ?_); refine goesL_ (some 6) rfl rfl Try.func67 (by kernel_rfl) rfl #[.int .i64 a0, .int .i64 1, .int .i64 24] rfl (by (try simp only [List.map_toArray, List.map_cons, List.map_nil]); first | done | rfl | (simp only [List.length_drop, List.length_take]; rfl)) ?_; (with_reducible refine (spec_l1In.calls a0 1 24 false _ A3.out).mono ?_); rintro e w' ⟨rfl, ⟨nd, rfl⟩⟩; refine ⟨_, rfl, ?_⟩; (try (rw [drewN_self w11]; generalize hq_ : World.drewN w11 _ = w11; have n0_ : Aside0 (w11.heap[gb792]? = some (.cells #[.int .i64 0, .int .i64 0, .slice none 0 0] 37 (0, 0))) := ⟨by rw [← hq_]; exact (gK BK792.out)⟩; have n1_ : Aside0 (Below w.heap.size w w11) := ⟨by rw [← hq_]; exact (gB HB.out)⟩; clear BK792 HB hq_; have BK792 := n0_; have HB := n1_; clear n0_ n1_)); have hcz12_0 := cz_ BK792.out 0 rfl; have hcz12_1 := cz_ BK792.out 1 rfl; have hcz12_2 := cz_ BK792.out 2 rfl; have hfz12_0 := blk_frozen BK792.out 0; have hfz12_1 := blk_frozen BK792.out 1; have hfz12_2 := blk_frozen BK792.out 2))
  refine bodyPost_ret (results_cell_row rfl _ _ gb792 37 #[.int .i64 0, .int .i64 0, .slice none 0 0] (0, 0) _ rfl (by (with_reducible repeat (first | refine blk_drewN ?_ _ | refine blk_drew ?_ | refine blk_alloc ?_ _)); refine blk_put (cs := #[.int .i64 0, .int .i64 0, .slice none 0 0]) ?_ 2 _ rfl; (with_reducible repeat (first | refine blk_drewN ?_ _ | refine blk_drew ?_ | refine blk_alloc ?_ _)); refine blk_put (cs := #[.int .i64 0, .int .i64 0, .slice none 0 0]) ?_ 1 _ rfl; (with_reducible repeat (first | refine blk_drewN ?_ _ | refine blk_drew ?_ | refine blk_alloc ?_ _)); refine blk_put (cs := #[.int .i64 0, .int .i64 0, .slice none 0 0]) ?_ 0 _ rfl; (with_reducible repeat (first | refine blk_drewN ?_ _ | refine blk_drew ?_ | refine blk_alloc ?_ _)); exact BK792.out) Try.underlying37 rfl (by kernel_rfl)) rfl ?_
  exact ⟨_, by first | rfl | (simp [errW_none, errW_some] <;> rfl) | (simp [*, errW_none, errW_some] <;> rfl), by first | exact Kd.S_nil _ _ _ _ _ | exact Kd.N_nil _ _ _ _ _ | exact Kd.V_nil _ _ _ _ _ | exact Kd.Q_nil _ _ _ _ _ | exact Kd.R_nil _ _ _ _ _, by repeat (first | (with_reducible first | exact HB.out | apply below_alloc | apply pw_below_drewN | apply below_drew1 | refine below_set ?_ GE792.out) | exact HB.out)⟩

/-! ### spec_GetNew: function 45 -/
def spec_GetNew.f (k : Nat) (a0_0 : Int) (a0_1 : Int) (l0_2 : List Int) (l0_3 : List Int) : Option (Int × Int × List Int × List Int × Int × Int × (List (S84))) := (spec_PlanOk.f k a0_0 a0_1 l0_2 l0_3).bind fun t797 => (if t797 = true then ((spec_l6Plan.f a0_0 a0_1 l0_2 l0_3).bind fun bt798 => ((spec_l5Count.f a0_0 a0_1 l0_2 l0_3).bind fun t806 => ((spec_SolverNew.f t806 a0_1).bind fun bt807 => (some (bt798.1, bt798.2.1, bt798.2.2.1, bt798.2.2.2, bt807.1, bt807.2.1, bt807.2.2))))) else (some (0, 0, ([] : List Int), ([] : List Int), 0, 0, ([] : List (S84)))))
theorem spec_GetNew.mono : ∀ a0 a1 a2 a3 k, LeO (spec_GetNew.f k a0 a1 a2 a3) (spec_GetNew.f (k + 1) a0 a1 a2 a3) := by
 intro a0 a1 a2 a3 k
 unfold spec_GetNew.f
 repeat' first
  | (with_reducible exact spec_PlanOk.mono _ _ _ _ _)
  | (with_reducible exact LeO.refl _)
  | (with_reducible exact LeO.none _)
  | (with_reducible refine LeO.ite ?_ ?_)
  | (with_reducible refine LeO.bind ?_ (fun _ => ?_))
  | exact spec_PlanOk.mono _ _ _ _ _
  | exact LeO.none _
  | refine LeO.ite ?_ ?_
  | refine LeO.bind ?_ (fun _ => ?_)
def spec_GetNew.T3 : Bool × List (List Nat × List Nat) := (true, [([], []), ([0], [0]), ([], []), ([2, 1], [2]), ([], []), ([4], [4]), ([3, 5, 3], [3, 5]), ([1, 6], [1, 6]), ([7, 6, 0, 1, 2, 3, 4, 5, 6, 7], [7])])
def spec_GetNew.B3 : List Nat := [0, 1, 0, 7, 0, 16, 63, 127, 255]
theorem spec_GetNew.tab3 : rtab .any (opsOf Try.f45 3) = spec_GetNew.T3 := by kernel_rfl
theorem spec_GetNew.bits3 : waitsOk spec_GetNew.T3.2 spec_GetNew.B3 = true := by kernel_rfl
set_option maxHeartbeats 8000000 in
set_option maxRecDepth 100000 in
theorem spec_GetNew.calls (k : Nat) (a0_0 : Int) (a0_1 : Int) (A0_2 : Option Addr) (c0_2 : Nat) (l0_2 : List Int) (A0_3 : Option Addr) (c0_3 : Nat) (l0_3 : List Int) (r1 : Int) (r2 : Int) (r3 : List Int) (r4 : List Int) (r5 : Int) (r6 : Int) (r7 : List (S84)) (w : World) (hr0_2 : Kd.C (Kd.int .i64) w A0_2 l0_2.length l0_2) (hc0_2 : l0_2.length ≤ c0_2) (hr0_3 : Kd.C (Kd.int .i64) w A0_3 l0_3.length l0_3) (hc0_3 : l0_3.length ≤ c0_3) (h : spec_GetNew.f k a0_0 a0_1 l0_2 l0_3 = some (r1, r2, r3, r4, r5, r6, r7)) :
 Calls Try.prog 45 #[.agg #[.int .i64 a0_0, .int .i64 a0_1, .slice A0_2 l0_2.length c0_2, .slice A0_3 l0_3.length c0_3]] w fun e w' => ∃ v2_ v3_ v6_ : Value, e = .returned (.agg #[.int .i64 r1, .int .i64 r2, v2_, v3_, .int .i64 r5, .int .i64 r6, v6_]) ∧ Kd.R (Kd.int .i64) 3 w' w.heap.size (fun k_ => some k_ ≠ (v3_ : Value).ownBlock) v2_ r3 ∧ Kd.R (Kd.int .i64) 3 w' w.heap.size (fun k_ => some k_ ≠ (v2_ : Value).ownBlock) v3_ r4 ∧ Kd.S k84 84 w' w.heap.size (fun k_ => some k_ ≠ (v2_ : Value).ownBlock ∧ some k_ ≠ (v3_ : Value).ownBlock) v6_ r7 ∧ Below w.heap.size w w' := by
 have hu46 := Try.underlying46
 have hu61 := Try.underlying61
 have HR0_2 := Aside0.mk hr0_2
 have HC0_2 := Aside0.mk hc0_2
 clear hr0_2 hc0_2
 have HR0_3 := Aside0.mk hr0_3
 have HC0_3 := Aside0.mk hc0_3
 clear hr0_3 hc0_3
 have HB := Aside0.mk (Below.refl w.heap.size w)
 have H : ((spec_PlanOk.f k a0_0 a0_1 l0_2 l0_3).bind fun t797 => (if t797 = true then ((spec_l6Plan.f a0_0 a0_1 l0_2 l0_3).bind fun bt798 => ((spec_l5Count.f a0_0 a0_1 l0_2 l0_3).bind fun t806 => ((spec_SolverNew.f t806 a0_1).bind fun bt807 => (some (bt798.1, bt798.2.1, bt798.2.2.1, bt798.2.2.2, bt807.1, bt807.2.1, bt807.2.2))))) else (some (0, 0, ([] : List Int), ([] : List Int), 0, 0, ([] : List (S84)))))) = some (r1, r2, r3, r4, r5, r6, r7) := h
 clear h
 replace H := bI_ H
 obtain ⟨t797, A20, H⟩ := H
 replace H : (if t797 = true then ((spec_l6Plan.f a0_0 a0_1 l0_2 l0_3).bind fun bt798 => ((spec_l5Count.f a0_0 a0_1 l0_2 l0_3).bind fun t806 => ((spec_SolverNew.f t806 a0_1).bind fun bt807 => (some (bt798.1, bt798.2.1, bt798.2.2.1, bt798.2.2.2, bt807.1, bt807.2.1, bt807.2.2))))) else (some (0, 0, ([] : List Int), ([] : List Int), 0, 0, ([] : List (S84))))) = some (r1, r2, r3, r4, r5, r6, r7) := H
 have A2 := Aside0.mk A20
 clear A20
 by_cases c3 : t797 = true
 ·subst c3
  have H1 : ((spec_l6Plan.f a0_0 a0_1 l0_2 l0_3).bind fun bt798 => ((spec_l5Count.f a0_0 a0_1 l0_2 l0_3).bind fun t806 => ((spec_SolverNew.f t806 a0_1).bind fun bt807 => (some (bt798.1, bt798.2.1, bt798.2.2.1, bt798.2.2.2, bt807.1, bt807.2.1, bt807.2.2))))) = some (r1, r2, r3, r4, r5, r6, r7) := by rw [if_pos rfl] at H; exact H
  clear H
  have H := H1
  clear H1
  replace H := bI_ H
  obtain ⟨⟨t798, t799, t800, t803⟩, A40, H⟩ := H
  replace H : ((spec_l5Count.f a0_0 a0_1 l0_2 l0_3).bind fun t806 => ((spec_SolverNew.f t806 a0_1).bind fun bt807 => (some (t798, t799, t800, t803, bt807.1, bt807.2.1, bt807.2.2)))) = some (r1, r2, r3, r4, r5, r6, r7) := H
  have A4 := Aside0.mk A40
  clear A40
  replace H := bI_ H
  obtain ⟨t806, A50, H⟩ := H
  replace H : ((spec_SolverNew.f t806 a0_1).bind fun bt807 => (some (t798, t799, t800, t803, bt807.1, bt807.2.1, bt807.2.2))) = some (r1, r2, r3, r4, r5, r6, r7) := H
  have A5 := Aside0.mk A50
  clear A50
  replace H := bI_ H
  obtain ⟨⟨t807, t808, t809⟩, A60, H⟩ := H
  replace H : (some (t798, t799, t800, t803, t807, t808, t809)) = some (r1, r2, r3, r4, r5, r6, r7) := H
  have A6 := Aside0.mk A60
  clear A60
  simp only [Option.some.injEq, Prod.mk.injEq] at H
  obtain ⟨rfl, rfl, rfl, rfl, rfl, rfl, rfl⟩ := H
  go_enter Try.func45, Try.ntmps45
  try go_wp2_with (first | ((with_reducible refine gate_dst (N := 1) rfl ?_); refine box_event ?hg (N := 1) ?hd (cs := #[.int .i64 a0_0, .int .i64 a0_1, .slice A0_2 l0_2.length c0_2, .slice A0_3 l0_3.length c0_3]) (t := 46) ?hr ?_; (case hd => rfl); (case hg => rfl); (case hr => first | (go_simp; done) | (go_simp; rfl)); intro gb795 hg w7 hbox hb; have n0_ := Aside0.mk (below_step (gB HB.out) hb); have n1_ := Aside0.mk (hbox); have n2_ := Aside0.mk ((by rw [hg]; exact (below_size (gB HB.out)) : w.heap.size ≤ gb795)); have n3_ := n2_; clear HB; have HB := n0_; have BK795 := n1_; have GW795 := n2_; have GE795 := n3_; clear n0_ n1_ n2_ n3_; clear hb hbox hg) | ((with_reducible refine gate_dst (N := 2) rfl ?_); refine box_event ?hg (N := 2) ?hd (cs := #[.int .i64 0, .int .i64 0, .slice none 0 0, .slice none 0 0, .int .i64 0, .int .i64 0, .slice none 0 0]) (t := 61) ?hr ?_; (case hd => rfl); (case hg => rfl); (case hr => first | (go_simp; done) | (go_simp; rfl)); intro gb796 hg w8 hbox hb; have n0_ := Aside0.mk (blk_below (gK BK795.out) hb); have n1_ := Aside0.mk (below_step (gB HB.out) hb); have n2_ := Aside0.mk (hbox); have n3_ := Aside0.mk ((by rw [hg]; exact (below_size (gB HB.out)) : w.heap.size ≤ gb796)); have n4_ := n3_; have n5_ := Aside0.mk ((by rw [hg]; exact Nat.ne_of_lt (blk_lt (gK BK795.out)) : gb795 ≠ gb796)); have n6_ := Aside0.mk ((by rw [hg]; exact Nat.ne_of_gt (blk_lt (gK BK795.out)) : gb796 ≠ gb795)); clear BK795; clear HB; have BK795 := n0_; have HB := n1_; have BK796 := n2_; have GW796 := n3_; have GE796 := n4_; have NB795_796 := n5_; have NB796_795 := n6_; clear n0_ n1_ n2_ n3_ n4_ n5_ n6_; clear hb hbox hg; have hnb9 := NB795_796.out; have hnc9 := NB796_795.out; have hcz10_0 := cz_ BK795.out 0 rfl; have hcz10_1 := cz_ BK795.out 1 rfl; have hcz10_2 := cz_ BK795.out 2 rfl; have hcz10_3 := cz_ BK795.out 3 rfl; have hfz10_0 := blk_frozen BK795.out 0; have hfz10_1 := blk_frozen BK795.out 1; have hfz10_2 := blk_frozen BK795.out 2; have hfz10_3 := blk_frozen BK795.out 3) | ((with_reducible refine gate_callee (f := 73) rfl ?_); refine goesL_ (some 4) rfl rfl Try.func73 (by kernel_rfl) rfl #[.agg #[.int .i64 a0_0, .int .i64 a0_1, .slice A0_2 l0_2.length c0_2, .slice A0_3 l0_3.length c0_3]] rfl (by (try simp only [List.map_toArray, List.map_cons, List.map_nil]); first | done | rfl | (simp only [List.length_drop, List.length_take]; rfl)) ?_; (with_reducible refine (spec_PlanOk.calls k a0_0 a0_1 _ _ l0_2 _ _ l0_3 true _ ?side1 ?side2 ?side3 ?side4 A2.out).mono ?_); (case side1 => exact gC (Kd.C_below HR0_2.out HB.out)); (case side2 => exact HC0_2.out); (case side3 => exact gC (Kd.C_below HR0_3.out HB.out)); (case side4 => exact HC0_3.out); rintro e w11 ⟨rfl, hb⟩; refine ⟨_, rfl, ?_⟩; have n0_ := Aside0.mk (blk_below (gK BK795.out) hb); have n1_ := Aside0.mk (blk_below (gK BK796.out) hb); have n2_ := Aside0.mk (below_step (gB HB.out) hb); clear BK795; clear BK796; clear HB; have BK795 := n0_; have BK796 := n1_; have HB := n2_; clear n0_ n1_ n2_; (try clear hb); (try clear hb2); (try clear hk); (try clear hi)))
  have n0_ := Aside0.mk (blk_drew BK795.out)
  have n1_ := Aside0.mk (blk_drew BK796.out)
  have n2_ := Aside0.mk (below_drew1 HB.out)
  clear BK795
  clear BK796
  clear HB
  have BK795 := n0_
  have BK796 := n1_
  have HB := n2_
  clear n0_ n1_ n2_
  refine start_ (n := 9) (S := fun w' => w'.cell? ⟨gb795, 0, none⟩ = some (.int .i64 a0_0) ∧ w'.cell? ⟨gb795, 1, none⟩ = some (.int .i64 a0_1) ∧ w'.cell? ⟨gb795, 2, none⟩ = some (.slice A0_2 l0_2.length c0_2) ∧ w'.cell? ⟨gb795, 3, none⟩ = some (.slice A0_3 l0_3.length c0_3)) (ds := []) (.replicate 9 false) (by kernel_rfl) rfl rfl ⟨cz_ BK795.out 0 rfl, cz_ BK795.out 1 rfl, cz_ BK795.out 2 rfl, cz_ BK795.out 3 rfl⟩ (fun hHeld => ?_); refine with_tabW spec_GetNew.tab3 spec_GetNew.bits3 (fun HT_ HW_ => ?_)
  generalize w11.drew = w12 at BK795 BK796 HB hHeld ⊢
  refine pu_ 4 (some 11) (bv 9 16) rfl rfl (any_of HT_.out (by kernel_rfl)) (fun _ _ _ h => h) (by rfl) (fun w' => by go_simp; with_reducible rfl) (by simp only [Act.put, eA_, e0_, eS_, i64_w, i32_w]; rfl) ?_
  refine tk_ 0 (some 7) (bv 9 17) rfl rfl (take_ofW HT_.out HW_.out (by kernel_rfl)) (fun _ _ _ h => h) (by rfl) hHeld (fun w' ⟨s0, s1, s2, s3⟩ => by go_simp; with_reducible rfl) (by simp only [Act.put, eA_, e0_, eS_, i64_w, i32_w]; rfl) ?_
  refine tk_ 2 (some 9) (bv 9 21) rfl rfl (take_ofW HT_.out HW_.out (by kernel_rfl)) (fun _ _ _ h => h) (by rfl) hHeld (fun w' ⟨s0, s1, s2, s3⟩ => by go_simp; with_reducible rfl) (by simp only [Act.put, eA_, e0_, eS_, i64_w, i32_w]; rfl) ?_
  refine tk_ 5 (some 12) (bv 9 53) rfl rfl (take_ofW HT_.out HW_.out (by kernel_rfl)) (fun _ _ _ h => h) (by rfl) hHeld (fun w' ⟨s0, s1, s2, s3⟩ => by go_simp; with_reducible rfl) (by simp only [Act.put, eA_, e0_, eS_, i64_w, i32_w]; rfl) ?_
  refine one_ (i := 1) (N := some 8) (bv 9 55) rfl rfl (one_of HT_.out (by kernel_rfl)) (by decide) (fun K hK => ?_)
  refine goes_ Try.func88 (by kernel_rfl) rfl #[.agg #[.int .i64 a0_0, .int .i64 a0_1, .slice A0_2 l0_2.length c0_2, .slice A0_3 l0_3.length c0_3]] (by rfl) rfl rfl (by (try simp only [List.map_toArray, List.map_cons, List.map_nil]); first | done | rfl | (simp only [List.length_drop, List.length_take]; rfl)) ?_
  with_reducible refine (spec_l6Plan.calls a0_0 a0_1 _ _ l0_2 _ _ l0_3 t798 t799 t800 t803 _ ?side1 ?side2 ?side3 ?side4 A4.out).mono ?_
  (case side1 => exact gC (Kd.C_below HR0_2.out HB.out))
  (case side2 => exact HC0_2.out)
  (case side3 => exact gC (Kd.C_below HR0_3.out HB.out))
  (case side4 => exact HC0_3.out)
  rintro e w13 ⟨v801, v804, rfl, ho0, ho1, hb⟩
  refine ⟨_, rfl, ?_⟩
  have n0_ := Aside0.mk (Kd.R_lower ho0 (below_size (gB HB.out)))
  have n1_ := Aside0.mk (Kd.R_lower ho1 (below_size (gB HB.out)))
  have n2_ := Aside0.mk (blk_below (gK BK795.out) hb)
  have n3_ := Aside0.mk (blk_below (gK BK796.out) hb)
  have n4_ := Aside0.mk (below_step (gB HB.out) hb)
  clear BK795
  clear BK796
  clear HB
  have HO802 := n0_
  have HO805 := n1_
  have BK795 := n2_
  have BK796 := n3_
  have HB := n4_
  clear n0_ n1_ n2_ n3_ n4_
  (try clear hb)
  (try clear hb2)
  (try clear hk)
  (try clear hi)
  (try clear ho0)
  (try clear ho1)
  refine hK.out _ _ ⟨cz_ BK795.out 0 rfl, cz_ BK795.out 1 rfl, cz_ BK795.out 2 rfl, cz_ BK795.out 3 rfl⟩ (fun hHeld => ?_)
  clear hK K
  refine norm_ (a' := ?_) ?_ ?_
  rotate_left
  ·show Act.put _ (some 8) _ = _
   simp only [Act.put, eA_, e0_, eS_, i64_w, i32_w]
   rfl
  refine one_ (i := 3) (N := some 10) (bv 9 63) rfl rfl (one_of HT_.out (by kernel_rfl)) (by decide) (fun K hK => ?_)
  refine goes_ Try.func90 (by kernel_rfl) rfl #[.agg #[.int .i64 a0_0, .int .i64 a0_1, .slice A0_2 l0_2.length c0_2, .slice A0_3 l0_3.length c0_3]] (by rfl) rfl rfl (by (try simp only [List.map_toArray, List.map_cons, List.map_nil]); first | done | rfl | (simp only [List.length_drop, List.length_take]; rfl)) ?_
  with_reducible refine (spec_l5Count.calls a0_0 a0_1 _ _ l0_2 _ _ l0_3 t806 _ ?side1 ?side2 ?side3 ?side4 A5.out).mono ?_
  (case side1 => exact gC (Kd.C_below HR0_2.out HB.out))
  (case side2 => exact HC0_2.out)
  (case side3 => exact gC (Kd.C_below HR0_3.out HB.out))
  (case side4 => exact HC0_3.out)
  rintro e w14 ⟨rfl, hb⟩
  refine ⟨_, rfl, ?_⟩
  have n0_ := Aside0.mk (Kd.R_below (gR HO802.out) hb)
  have n1_ := Aside0.mk (Kd.R_below (gR HO805.out) hb)
  have n2_ := Aside0.mk (blk_below (gK BK795.out) hb)
  have n3_ := Aside0.mk (blk_below (gK BK796.out) hb)
  have n4_ := Aside0.mk (below_step (gB HB.out) hb)
  clear HO802
  clear HO805
  clear BK795
  clear BK796
  clear HB
  have HO802 := n0_
  have HO805 := n1_
  have BK795 := n2_
  have BK796 := n3_
  have HB := n4_
  clear n0_ n1_ n2_ n3_ n4_
  (try clear hb)
  (try clear hb2)
  (try clear hk)
  (try clear hi)
  refine hK.out _ _ ⟨cz_ BK795.out 0 rfl, cz_ BK795.out 1 rfl, cz_ BK795.out 2 rfl, cz_ BK795.out 3 rfl⟩ (fun hHeld => ?_)
  clear hK K
  refine norm_ (a' := ?_) ?_ ?_
  rotate_left
  ·show Act.put _ (some 10) _ = _
   simp only [Act.put, eA_, e0_, eS_, i64_w, i32_w]
   rfl
  refine one_ (i := 6) (N := some 13) (bv 9 127) rfl rfl (one_of HT_.out (by kernel_rfl)) (by decide) (fun K hK => ?_)
  refine goes_ Try.func89 (by kernel_rfl) rfl #[.int .i64 t806, .int .i64 a0_1] (by rfl) rfl rfl (by (try simp only [List.map_toArray, List.map_cons, List.map_nil]); first | done | rfl | (simp only [List.length_drop, List.length_take]; rfl)) ?_
  with_reducible refine (spec_SolverNew.calls t806 a0_1 t807 t808 t809 _ A6.out).mono ?_
  rintro e w15 ⟨v810, rfl, ho0, hb⟩
  refine ⟨_, rfl, ?_⟩
  have n0_ := Aside0.mk (Kd.R_below (gR HO802.out) hb)
  have n1_ := Aside0.mk (Kd.R_below (gR HO805.out) hb)
  have n2_ := Aside0.mk (Kd.S_lower (Kd.S_new' (Kd.S_new' ho0 (Kd.R_lt (gR HO802.out))) (Kd.R_lt (gR HO805.out))) (below_size (gB HB.out)))
  have n3_ := Aside0.mk (blk_below (gK BK795.out) hb)
  have n4_ := Aside0.mk (blk_below (gK BK796.out) hb)
  have n5_ := Aside0.mk (below_step (gB HB.out) hb)
  clear HO802
  clear HO805
  clear BK795
  clear BK796
  clear HB
  have HO802 := n0_
  have HO805 := n1_
  have HO811 := n2_
  have BK795 := n3_
  have BK796 := n4_
  have HB := n5_
  clear n0_ n1_ n2_ n3_ n4_ n5_
  (try clear hb)
  (try clear hb2)
  (try clear hk)
  (try clear hi)
  (try clear ho0)
  obtain ⟨Ao16, co16, eo16⟩ := Kd.S_slice HO811.out
  (first | subst eo16 | (injection eo16 with f1_ f2_ f3_; have f4_ := f1_.symm; have f5_ := f3_.symm; clear f1_ f2_ f3_; subst f4_; subst f5_))
  obtain ⟨Ao17, co17, eo17⟩ := Kd.R_slice HO805.out
  (first | subst eo17 | (injection eo17 with f1_ f2_ f3_; have f4_ := f1_.symm; have f5_ := f3_.symm; clear f1_ f2_ f3_; subst f4_; subst f5_))
  obtain ⟨Ao18, co18, eo18⟩ := Kd.R_slice HO802.out
  (first | subst eo18 | (injection eo18 with f1_ f2_ f3_; have f4_ := f1_.symm; have f5_ := f3_.symm; clear f1_ f2_ f3_; subst f4_; subst f5_))
  refine hK.out _ _ ⟨cz_ BK795.out 0 rfl, cz_ BK795.out 1 rfl, cz_ BK795.out 2 rfl, cz_ BK795.out 3 rfl⟩ (fun hHeld => ?_)
  clear hK K
  refine norm_ (a' := ?_) ?_ ?_
  rotate_left
  ·show Act.put _ (some 13) _ = _
   simp only [Act.put, eA_, e0_, eS_, i64_w, i32_w]
   rfl
  refine pu_ 7 (some 14) (bv 9 255) rfl rfl (any_of HT_.out (by kernel_rfl)) (fun _ _ _ h => h) (by rfl) (fun w' => by go_simp; with_reducible rfl) (by simp only [Act.put, eA_, e0_, eS_, i64_w, i32_w]; rfl) ?_
  refine one_ (i := 8) (N := none) (bv 9 511) rfl rfl (one_of HT_.out (by kernel_rfl)) (by decide) (fun K hK => ?_)
  have hs19 : w15.cell? ⟨gb796, 0, none⟩ = some (.int .i64 0) := cz_ BK796.out 0 rfl
  have hfs19 := blk_frozen BK796.out 0
  have hns19_0 := NB795_796.out
  have hms19_0 := NB796_795.out
  have hs20 : w15.cell? ⟨gb796, 1, none⟩ = some (.int .i64 0) := cz_ BK796.out 1 rfl
  have hfs20 := blk_frozen BK796.out 1
  have hns20_0 := NB795_796.out
  have hms20_0 := NB796_795.out
  have hs21 : w15.cell? ⟨gb796, 2, none⟩ = some (.slice none 0 0) := cz_ BK796.out 2 rfl
  have hfs21 := blk_frozen BK796.out 2
  have hns21_0 := NB795_796.out
  have hms21_0 := NB796_795.out
  have hs22 : w15.cell? ⟨gb796, 3, none⟩ = some (.slice none 0 0) := cz_ BK796.out 3 rfl
  have hfs22 := blk_frozen BK796.out 3
  have hns22_0 := NB795_796.out
  have hms22_0 := NB796_795.out
  have hs23 : w15.cell? ⟨gb796, 4, none⟩ = some (.int .i64 0) := cz_ BK796.out 4 rfl
  have hfs23 := blk_frozen BK796.out 4
  have hns23_0 := NB795_796.out
  have hms23_0 := NB796_795.out
  have hs24 : w15.cell? ⟨gb796, 5, none⟩ = some (.int .i64 0) := cz_ BK796.out 5 rfl
  have hfs24 := blk_frozen BK796.out 5
  have hns24_0 := NB795_796.out
  have hms24_0 := NB796_795.out
  have hs25 : w15.cell? ⟨gb796, 6, none⟩ = some (.slice none 0 0) := cz_ BK796.out 6 rfl
  have hfs25 := blk_frozen BK796.out 6
  have hns25_0 := NB795_796.out
  have hms25_0 := NB796_795.out
  refine skip_ (w1 := ?_) (by rfl) rfl ?_ ?_
  rotate_left
  ·go_simp
   rfl
  refine hK.out _ _ ⟨((cell_far (p := ⟨gb796, _, none⟩) NB795_796.out _).trans (((cell_far (p := ⟨gb796, _, none⟩) NB795_796.out _).trans (((cell_far (p := ⟨gb796, _, none⟩) NB795_796.out _).trans (((cell_far (p := ⟨gb796, _, none⟩) NB795_796.out _).trans (((cell_far (p := ⟨gb796, _, none⟩) NB795_796.out _).trans (((cell_far (p := ⟨gb796, _, none⟩) NB795_796.out _).trans (((cell_far (p := ⟨gb796, _, none⟩) NB795_796.out _).trans (hHeld.1)))))))))))))), ((cell_far (p := ⟨gb796, _, none⟩) NB795_796.out _).trans (((cell_far (p := ⟨gb796, _, none⟩) NB795_796.out _).trans (((cell_far (p := ⟨gb796, _, none⟩) NB795_796.out _).trans (((cell_far (p := ⟨gb796, _, none⟩) NB795_796.out _).trans (((cell_far (p := ⟨gb796, _, none⟩) NB795_796.out _).trans (((cell_far (p := ⟨gb796, _, none⟩) NB795_796.out _).trans (((cell_far (p := ⟨gb796, _, none⟩) NB795_796.out _).trans (hHeld.2.1)))))))))))))), ((cell_far (p := ⟨gb796, _, none⟩) NB795_796.out _).trans (((cell_far (p := ⟨gb796, _, none⟩) NB795_796.out _).trans (((cell_far (p := ⟨gb796, _, none⟩) NB795_796.out _).trans (((cell_far (p := ⟨gb796, _, none⟩) NB795_796.out _).trans (((cell_far (p := ⟨gb796, _, none⟩) NB795_796.out _).trans (((cell_far (p := ⟨gb796, _, none⟩) NB795_796.out _).trans (((cell_far (p := ⟨gb796, _, none⟩) NB795_796.out _).trans (hHeld.2.2.1)))))))))))))), ((cell_far (p := ⟨gb796, _, none⟩) NB795_796.out _).trans (((cell_far (p := ⟨gb796, _, none⟩) NB795_796.out _).trans (((cell_far (p := ⟨gb796, _, none⟩) NB795_796.out _).trans (((cell_far (p := ⟨gb796, _, none⟩) NB795_796.out _).trans (((cell_far (p := ⟨gb796, _, none⟩) NB795_796.out _).trans (((cell_far (p := ⟨gb796, _, none⟩) NB795_796.out _).trans (((cell_far (p := ⟨gb796, _, none⟩) NB795_796.out _).trans (hHeld.2.2.2))))))))))))))⟩ (fun hHeld => ?_)
  clear hK K
  refine done_ (done_of HT_.out (by kernel_rfl)) ?_
  try go_wp2
  refine bodyPost_ret (results_cell_row rfl _ _ gb796 61 #[.int .i64 t798, .int .i64 t799, .slice Ao18 t800.length co18, .slice Ao17 t803.length co17, .int .i64 t807, .int .i64 t808, .slice Ao16 t809.length co16] (0, 0) _ rfl (by (with_reducible repeat (first | refine blk_drewN ?_ _ | refine blk_drew ?_ | refine blk_alloc ?_ _)); refine blk_put (cs := #[.int .i64 t798, .int .i64 t799, .slice Ao18 t800.length co18, .slice Ao17 t803.length co17, .int .i64 t807, .int .i64 t808, .slice none 0 0]) ?_ 6 _ rfl; (with_reducible repeat (first | refine blk_drewN ?_ _ | refine blk_drew ?_ | refine blk_alloc ?_ _)); refine blk_put (cs := #[.int .i64 t798, .int .i64 t799, .slice Ao18 t800.length co18, .slice Ao17 t803.length co17, .int .i64 t807, .int .i64 0, .slice none 0 0]) ?_ 5 _ rfl; (with_reducible repeat (first | refine blk_drewN ?_ _ | refine blk_drew ?_ | refine blk_alloc ?_ _)); refine blk_put (cs := #[.int .i64 t798, .int .i64 t799, .slice Ao18 t800.length co18, .slice Ao17 t803.length co17, .int .i64 0, .int .i64 0, .slice none 0 0]) ?_ 4 _ rfl; (with_reducible repeat (first | refine blk_drewN ?_ _ | refine blk_drew ?_ | refine blk_alloc ?_ _)); refine blk_put (cs := #[.int .i64 t798, .int .i64 t799, .slice Ao18 t800.length co18, .slice none 0 0, .int .i64 0, .int .i64 0, .slice none 0 0]) ?_ 3 _ rfl; (with_reducible repeat (first | refine blk_drewN ?_ _ | refine blk_drew ?_ | refine blk_alloc ?_ _)); refine blk_put (cs := #[.int .i64 t798, .int .i64 t799, .slice none 0 0, .slice none 0 0, .int .i64 0, .int .i64 0, .slice none 0 0]) ?_ 2 _ rfl; (with_reducible repeat (first | refine blk_drewN ?_ _ | refine blk_drew ?_ | refine blk_alloc ?_ _)); refine blk_put (cs := #[.int .i64 t798, .int .i64 0, .slice none 0 0, .slice none 0 0, .int .i64 0, .int .i64 0, .slice none 0 0]) ?_ 1 _ rfl; (with_reducible repeat (first | refine blk_drewN ?_ _ | refine blk_drew ?_ | refine blk_alloc ?_ _)); refine blk_put (cs := #[.int .i64 0, .int .i64 0, .slice none 0 0, .slice none 0 0, .int .i64 0, .int .i64 0, .slice none 0 0]) ?_ 0 _ rfl; (with_reducible repeat (first | refine blk_drewN ?_ _ | refine blk_drew ?_ | refine blk_alloc ?_ _)); exact BK796.out) Try.underlying61 rfl (by kernel_rfl)) rfl ?_
  exact ⟨_, _, _, by first | rfl | (simp [errW_none, errW_some] <;> rfl) | (simp [*, errW_none, errW_some] <;> rfl), by (with_reducible repeat (first | apply Kd.R_alloc | apply Kd.R_drewN | apply Kd.R_drew)); exact Kd.R_mono (Kd.R_far (p := ⟨gb796, 6, none⟩) (Kd.R_far (p := ⟨gb796, 5, none⟩) (Kd.R_far (p := ⟨gb796, 4, none⟩) (Kd.R_far (p := ⟨gb796, 3, none⟩) (Kd.R_far (p := ⟨gb796, 2, none⟩) (Kd.R_far (p := ⟨gb796, 1, none⟩) (Kd.R_far (p := ⟨gb796, 0, none⟩) (Kd.R_types HO802.out BK796.out (by decide)) (fun _ hk => hk.2) (.int .i64 t798)) (fun _ hk => hk.2) (.int .i64 t799)) (fun _ hk => hk.2) (.slice Ao18 t800.length co18)) (fun _ hk => hk.2) (.slice Ao17 t803.length co17)) (fun _ hk => hk.2) (.int .i64 t807)) (fun _ hk => hk.2) (.int .i64 t808)) (fun _ hk => hk.2) (.slice Ao16 t809.length co16)) (fun _ hk => hk.1), by (with_reducible repeat (first | apply Kd.R_alloc | apply Kd.R_drewN | apply Kd.R_drew)); exact Kd.R_mono (Kd.R_far (p := ⟨gb796, 6, none⟩) (Kd.R_far (p := ⟨gb796, 5, none⟩) (Kd.R_far (p := ⟨gb796, 4, none⟩) (Kd.R_far (p := ⟨gb796, 3, none⟩) (Kd.R_far (p := ⟨gb796, 2, none⟩) (Kd.R_far (p := ⟨gb796, 1, none⟩) (Kd.R_far (p := ⟨gb796, 0, none⟩) (Kd.R_types HO805.out BK796.out (by decide)) (fun _ hk => hk.2) (.int .i64 t798)) (fun _ hk => hk.2) (.int .i64 t799)) (fun _ hk => hk.2) (.slice Ao18 t800.length co18)) (fun _ hk => hk.2) (.slice Ao17 t803.length co17)) (fun _ hk => hk.2) (.int .i64 t807)) (fun _ hk => hk.2) (.int .i64 t808)) (fun _ hk => hk.2) (.slice Ao16 t809.length co16)) (fun _ hk => hk.1), by (with_reducible repeat (first | apply Kd.S_alloc | apply Kd.S_drewN | apply Kd.S_drew)); exact Kd.S_mono (Kd.S_far (p := ⟨gb796, 6, none⟩) (Kd.S_far (p := ⟨gb796, 5, none⟩) (Kd.S_far (p := ⟨gb796, 4, none⟩) (Kd.S_far (p := ⟨gb796, 3, none⟩) (Kd.S_far (p := ⟨gb796, 2, none⟩) (Kd.S_far (p := ⟨gb796, 1, none⟩) (Kd.S_far (p := ⟨gb796, 0, none⟩) (Kd.S_types HO811.out BK796.out (by decide)) (fun _ hk => hk.2) (.int .i64 t798)) (fun _ hk => hk.2) (.int .i64 t799)) (fun _ hk => hk.2) (.slice Ao18 t800.length co18)) (fun _ hk => hk.2) (.slice Ao17 t803.length co17)) (fun _ hk => hk.2) (.int .i64 t807)) (fun _ hk => hk.2) (.int .i64 t808)) (fun _ hk => hk.2) (.slice Ao16 t809.length co16)) (fun _ hk => ⟨hk.1.1.2, hk.1.2⟩), by repeat (first | (with_reducible first | exact HB.out | apply below_alloc | apply pw_below_drewN | apply below_drew1 | refine below_set ?_ GE795.out | refine below_set ?_ GE796.out) | exact HB.out)⟩
 ·replace c3 := Bool.eq_false_iff.mpr c3
  subst c3
  have H1 : (some (0, 0, ([] : List Int), ([] : List Int), 0, 0, ([] : List (S84)))) = some (r1, r2, r3, r4, r5, r6, r7) := by rw [if_neg (show ¬ (false = true) by decide)] at H; exact H
  clear H
  have H := H1
  clear H1
  simp only [Option.some.injEq, Prod.mk.injEq] at H
  obtain ⟨rfl, rfl, rfl, rfl, rfl, rfl, rfl⟩ := H
  go_enter Try.func45, Try.ntmps45
  go_wp2_with (first | ((with_reducible refine gate_dst (N := 1) rfl ?_); refine box_event ?hg (N := 1) ?hd (cs := #[.int .i64 a0_0, .int .i64 a0_1, .slice A0_2 l0_2.length c0_2, .slice A0_3 l0_3.length c0_3]) (t := 46) ?hr ?_; (case hd => rfl); (case hg => rfl); (case hr => first | (go_simp; done) | (go_simp; rfl)); intro gb795 hg w26 hbox hb; have n0_ := Aside0.mk (below_step (gB HB.out) hb); have n1_ := Aside0.mk (hbox); have n2_ := Aside0.mk ((by rw [hg]; exact (below_size (gB HB.out)) : w.heap.size ≤ gb795)); have n3_ := n2_; clear HB; have HB := n0_; have BK795 := n1_; have GW795 := n2_; have GE795 := n3_; clear n0_ n1_ n2_ n3_; clear hb hbox hg) | ((with_reducible refine gate_dst (N := 2) rfl ?_); refine box_event ?hg (N := 2) ?hd (cs := #[.int .i64 0, .int .i64 0, .slice none 0 0, .slice none 0 0, .int .i64 0, .int .i64 0, .slice none 0 0]) (t := 61) ?hr ?_; (case hd => rfl); (case hg => rfl); (case hr => first | (go_simp; done) | (go_simp; rfl)); intro gb796 hg w27 hbox hb; have n0_ := Aside0.mk (blk_below (gK BK795.out) hb); have n1_ := Aside0.mk (below_step (gB HB.out) hb); have n2_ := Aside0.mk (hbox); have n3_ := Aside0.mk ((by rw [hg]; exact (below_size (gB HB.out)) : w.heap.size ≤ gb796)); have n4_ := n3_; have n5_ := Aside0.mk ((by rw [hg]; exact Nat.ne_of_lt (blk_lt (gK BK795.out)) : gb795 ≠ gb796)); have n6_ := Aside0.mk ((by rw [hg]; exact Nat.ne_of_gt (blk_lt (gK BK795.out)) : gb796 ≠ gb795)); clear BK795; clear HB; have BK795 := n0_; have HB := n1_; have BK796 := n2_; have GW796 := n3_; have GE796 := n4_; have NB795_796 := n5_; have NB796_795 := n6_; clear n0_ n1_ n2_ n3_ n4_ n5_ n6_; clear hb hbox hg; have hnb28 := NB795_796.out; have hnc28 := NB796_795.out; have hcz29_0 := cz_ BK795.out 0 rfl; have hcz29_1 := cz_ BK795.out 1 rfl; have hcz29_2 := cz_ BK795.out 2 rfl; have hcz29_3 := cz_ BK795.out 3 rfl; have hfz29_0 := blk_frozen BK795.out 0; have hfz29_1 := blk_frozen BK795.out 1; have hfz29_2 := blk_frozen BK795.out 2; have hfz29_3 := blk_frozen BK795.out 3) | ((with_reducible refine gate_callee (f := 73) rfl ?_); refine goesL_ (some 4) rfl rfl Try.func73 (by kernel_rfl) rfl #[.agg #[.int .i64 a0_0, .int .i64 a0_1, .slice A0_2 l0_2.length c0_2, .slice A0_3 l0_3.length c0_3]] rfl (by (try simp only [List.map_toArray, List.map_cons, List.map_nil]); first | done | rfl | (simp only [List.length_drop, List.length_take]; rfl)) ?_; (with_reducible refine (spec_PlanOk.calls k a0_0 a0_1 _ _ l0_2 _ _ l0_3 false _ ?side1 ?side2 ?side3 ?side4 A2.out).mono ?_); (case side1 => exact gC (Kd.C_below HR0_2.out HB.out)); (case side2 => exact HC0_2.out); (case side3 => exact gC (Kd.C_below HR0_3.out HB.out)); (case side4 => exact HC0_3.out); rintro e w30 ⟨rfl, hb⟩; refine ⟨_, rfl, ?_⟩; have n0_ := Aside0.mk (blk_below (gK BK795.out) hb); have n1_ := Aside0.mk (blk_below (gK BK796.out) hb); have n2_ := Aside0.mk (below_step (gB HB.out) hb); clear BK795; clear BK796; clear HB; have BK795 := n0_; have BK796 := n1_; have HB := n2_; clear n0_ n1_ n2_; (try clear hb); (try clear hb2); (try clear hk); (try clear hi); have hcz31_0 := cz_ BK796.out 0 rfl; have hcz31_1 := cz_ BK796.out 1 rfl; have hcz31_2 := cz_ BK796.out 2 rfl; have hcz31_3 := cz_ BK796.out 3 rfl; have hcz31_4 := cz_ BK796.out 4 rfl; have hcz31_5 := cz_ BK796.out 5 rfl; have hcz31_6 := cz_ BK796.out 6 rfl; have hfz31_0 := blk_frozen BK796.out 0; have hfz31_1 := blk_frozen BK796.out 1; have hfz31_2 := blk_frozen BK796.out 2; have hfz31_3 := blk_frozen BK796.out 3; have hfz31_4 := blk_frozen BK796.out 4; have hfz31_5 := blk_frozen BK796.out 5; have hfz31_6 := blk_frozen BK796.out 6))
  refine bodyPost_ret (results_cell_row rfl _ _ gb796 61 #[.int .i64 0, .int .i64 0, .slice none 0 0, .slice none 0 0, .int .i64 0, .int .i64 0, .slice none 0 0] (0, 0) _ rfl (by (with_reducible repeat (first | refine blk_drewN ?_ _ | refine blk_drew ?_ | refine blk_alloc ?_ _)); refine blk_put (cs := #[.int .i64 0, .int .i64 0, .slice none 0 0, .slice none 0 0, .int .i64 0, .int .i64 0, .slice none 0 0]) ?_ 6 _ rfl; (with_reducible repeat (first | refine blk_drewN ?_ _ | refine blk_drew ?_ | refine blk_alloc ?_ _)); refine blk_put (cs := #[.int .i64 0, .int .i64 0, .slice none 0 0, .slice none 0 0, .int .i64 0, .int .i64 0, .slice none 0 0]) ?_ 5 _ rfl; (with_reducible repeat (first | refine blk_drewN ?_ _ | refine blk_drew ?_ | refine blk_alloc ?_ _)); refine blk_put (cs := #[.int .i64 0, .int .i64 0, .slice none 0 0, .slice none 0 0, .int .i64 0, .int .i64 0, .slice none 0 0]) ?_ 4 _ rfl; (with_reducible repeat (first | refine blk_drewN ?_ _ | refine blk_drew ?_ | refine blk_alloc ?_ _)); refine blk_put (cs := #[.int .i64 0, .int .i64 0, .slice none 0 0, .slice none 0 0, .int .i64 0, .int .i64 0, .slice none 0 0]) ?_ 3 _ rfl; (with_reducible repeat (first | refine blk_drewN ?_ _ | refine blk_drew ?_ | refine blk_alloc ?_ _)); refine blk_put (cs := #[.int .i64 0, .int .i64 0, .slice none 0 0, .slice none 0 0, .int .i64 0, .int .i64 0, .slice none 0 0]) ?_ 2 _ rfl; (with_reducible repeat (first | refine blk_drewN ?_ _ | refine blk_drew ?_ | refine blk_alloc ?_ _)); refine blk_put (cs := #[.int .i64 0, .int .i64 0, .slice none 0 0, .slice none 0 0, .int .i64 0, .int .i64 0, .slice none 0 0]) ?_ 1 _ rfl; (with_reducible repeat (first | refine blk_drewN ?_ _ | refine blk_drew ?_ | refine blk_alloc ?_ _)); refine blk_put (cs := #[.int .i64 0, .int .i64 0, .slice none 0 0, .slice none 0 0, .int .i64 0, .int .i64 0, .slice none 0 0]) ?_ 0 _ rfl; (with_reducible repeat (first | refine blk_drewN ?_ _ | refine blk_drew ?_ | refine blk_alloc ?_ _)); exact BK796.out) Try.underlying61 rfl (by kernel_rfl)) rfl ?_
  exact ⟨_, _, _, by first | rfl | (simp [errW_none, errW_some] <;> rfl) | (simp [*, errW_none, errW_some] <;> rfl), by first | exact Kd.R_nil _ _ _ _ _ | exact Kd.N_nil _ _ _ _ _ | exact Kd.V_nil _ _ _ _ _ | exact Kd.Q_nil _ _ _ _ _ | exact Kd.S_nil _ _ _ _ _, by first | exact Kd.R_nil _ _ _ _ _ | exact Kd.N_nil _ _ _ _ _ | exact Kd.V_nil _ _ _ _ _ | exact Kd.Q_nil _ _ _ _ _ | exact Kd.S_nil _ _ _ _ _, by first | exact Kd.S_nil _ _ _ _ _ | exact Kd.N_nil _ _ _ _ _ | exact Kd.V_nil _ _ _ _ _ | exact Kd.Q_nil _ _ _ _ _ | exact Kd.R_nil _ _ _ _ _, by repeat (first | (with_reducible first | exact HB.out | apply below_alloc | apply pw_below_drewN | apply below_drew1 | refine below_set ?_ GE795.out | refine below_set ?_ GE796.out) | exact HB.out)⟩

/-! ### impl_clonePlan: function 91 -/
def impl_clonePlan.f (a0_0 : Int) (a0_1 : Int) (l0_2 : List Int) (l0_3 : List Int) : Option (Int × Int × List Int × List Int) := (some (([] : List Int) : List Int)).bind fun y814 => (if y814.length + l0_2.length < 17592186044416 then ((some (([] : List Int) : List Int)).bind fun y820 => (if y820.length + l0_3.length < 17592186044416 then (some (a0_0, a0_1, (y814 ++ l0_2), (y820 ++ l0_3))) else (none))) else (none))
def impl_clonePlan.T1 : Bool × List (List Nat × List Nat) := (true, [([], []), ([0], [0]), ([], []), ([2], [2]), ([], []), ([], []), ([5], [5]), ([4, 6], [4, 6]), ([], []), ([], []), ([9], [9]), ([8, 10, 7], [8, 10]), ([1, 3, 7, 11], [1, 3, 7, 11]), ([12, 11, 0, 1, 2, 3, 4, 5, 6, 7, 8, 9, 10, 11, 12], [12])])
def impl_clonePlan.B1 : List Nat := [0, 1, 0, 4, 0, 0, 32, 112, 0, 0, 512, 2032, 4095, 8191]
theorem impl_clonePlan.tab1 : rtab .any (opsOf Try.f91 1) = impl_clonePlan.T1 := by kernel_rfl
theorem impl_clonePlan.bits1 : waitsOk impl_clonePlan.T1.2 impl_clonePlan.B1 = true := by kernel_rfl
set_option maxHeartbeats 8000000 in
set_option maxRecDepth 100000 in
theorem impl_clonePlan.calls (a0_0 : Int) (a0_1 : Int) (A0_2 : Option Addr) (c0_2 : Nat) (l0_2 : List Int) (A0_3 : Option Addr) (c0_3 : Nat) (l0_3 : List Int) (r1 : Int) (r2 : Int) (r3 : List Int) (r4 : List Int) (w : World) (hr0_2 : Kd.C (Kd.int .i64) w A0_2 l0_2.length l0_2) (hc0_2 : l0_2.length ≤ c0_2) (hr0_3 : Kd.C (Kd.int .i64) w A0_3 l0_3.length l0_3) (hc0_3 : l0_3.length ≤ c0_3) (h : impl_clonePlan.f a0_0 a0_1 l0_2 l0_3 = some (r1, r2, r3, r4)) :
 Calls Try.prog 91 #[.agg #[.int .i64 a0_0, .int .i64 a0_1, .slice A0_2 l0_2.length c0_2, .slice A0_3 l0_3.length c0_3]] w fun e w' => ∃ v2_ v3_ : Value, e = .returned (.agg #[.int .i64 r1, .int .i64 r2, v2_, v3_]) ∧ Kd.R (Kd.int .i64) 3 w' w.heap.size (fun k_ => some k_ ≠ (v3_ : Value).ownBlock) v2_ r3 ∧ Kd.R (Kd.int .i64) 3 w' w.heap.size (fun k_ => some k_ ≠ (v2_ : Value).ownBlock) v3_ r4 ∧ Below w.heap.size w w' := by
 have hu46 := Try.underlying46
 have HR0_2 := Aside0.mk hr0_2
 have HC0_2 := Aside0.mk hc0_2
 clear hr0_2 hc0_2
 have HR0_3 := Aside0.mk hr0_3
 have HC0_3 := Aside0.mk hc0_3
 clear hr0_3 hc0_3
 have HB := Aside0.mk (Below.refl w.heap.size w)
 have H : ((some (([] : List Int) : List Int)).bind fun y814 => (if y814.length + l0_2.length < 17592186044416 then ((some (([] : List Int) : List Int)).bind fun y820 => (if y820.length + l0_3.length < 17592186044416 then (some (a0_0, a0_1, (y814 ++ l0_2), (y820 ++ l0_3))) else (none))) else (none))) = some (r1, r2, r3, r4) := h
 clear h
 obtain ⟨y814, hy814⟩ : ∃ y_ : List Int, y_ = (([] : List Int)) := ⟨_, rfl⟩
 replace H : (if y814.length + l0_2.length < 17592186044416 then ((some (([] : List Int) : List Int)).bind fun y820 => (if y820.length + l0_3.length < 17592186044416 then (some (a0_0, a0_1, (y814 ++ l0_2), (y820 ++ l0_3))) else (none))) else (none)) = some (r1, r2, r3, r4) := by first | (rw [hy814]; with_reducible exact H) | (have H2_ := (Option.bind_some _ _).symm.trans H; rw [hy814]; with_reducible exact H2_) | (have H2_ := (Option.bind_some _ _).symm.trans H; with_reducible exact H2_) | with_reducible exact H | (rw [hy814]; exact H) | exact H
 have Ny814 := Aside0.mk hy814
 clear hy814
 by_cases c2 : y814.length + l0_2.length < 17592186044416
 ·rw [if_pos c2] at H
  have LMc2 := Aside0.mk c2
  clear c2
  obtain ⟨y817, hy817⟩ : ∃ y_ : List Int, y_ = (y814 ++ l0_2) := ⟨_, rfl⟩
  replace H : ((some (([] : List Int) : List Int)).bind fun y820 => (if y820.length + l0_3.length < 17592186044416 then (some (a0_0, a0_1, y817, (y820 ++ l0_3))) else (none))) = some (r1, r2, r3, r4) := by first | (rw [hy817]; with_reducible exact H) | (have H2_ := (Option.bind_some _ _).symm.trans H; rw [hy817]; with_reducible exact H2_) | (have H2_ := (Option.bind_some _ _).symm.trans H; with_reducible exact H2_) | with_reducible exact H | (rw [hy817]; exact H) | exact H
  have Ny817 := Aside0.mk hy817
  clear hy817
  obtain ⟨y820, hy820⟩ : ∃ y_ : List Int, y_ = (([] : List Int)) := ⟨_, rfl⟩
  replace H : (if y820.length + l0_3.length < 17592186044416 then (some (a0_0, a0_1, y817, (y820 ++ l0_3))) else (none)) = some (r1, r2, r3, r4) := by first | (rw [hy820]; with_reducible exact H) | (have H2_ := (Option.bind_some _ _).symm.trans H; rw [hy820]; with_reducible exact H2_) | (have H2_ := (Option.bind_some _ _).symm.trans H; with_reducible exact H2_) | with_reducible exact H | (rw [hy820]; exact H) | exact H
  have Ny820 := Aside0.mk hy820
  clear hy820
  by_cases c3 : y820.length + l0_3.length < 17592186044416
  ·rw [if_pos c3] at H
   have LMc3 := Aside0.mk c3
   clear c3
   obtain ⟨y823, hy823⟩ : ∃ y_ : List Int, y_ = (y820 ++ l0_3) := ⟨_, rfl⟩
   replace H : (some (a0_0, a0_1, y817, y823)) = some (r1, r2, r3, r4) := by first | (rw [hy823]; with_reducible exact H) | (have H2_ := (Option.bind_some _ _).symm.trans H; rw [hy823]; with_reducible exact H2_) | (have H2_ := (Option.bind_some _ _).symm.trans H; with_reducible exact H2_) | with_reducible exact H | (rw [hy823]; exact H) | exact H
   have Ny823 := Aside0.mk hy823
   clear hy823
   simp only [Option.some.injEq, Prod.mk.injEq] at H
   obtain ⟨rfl, rfl, rfl, rfl⟩ := H
   go_enter Try.func91, Try.ntmps91
   try go_wp2_with (first | ((with_reducible refine gate_dst (N := 1) rfl ?_); refine box_event ?hg (N := 1) ?hd (cs := #[.int .i64 a0_0, .int .i64 a0_1, .slice A0_2 l0_2.length c0_2, .slice A0_3 l0_3.length c0_3]) (t := 46) ?hr ?_; (case hd => rfl); (case hg => rfl); (case hr => first | (go_simp; done) | (go_simp; rfl)); intro gb812 hg w4 hbox hb; have n0_ := Aside0.mk (below_step (gB HB.out) hb); have n1_ := Aside0.mk (hbox); have n2_ := Aside0.mk ((by rw [hg]; exact (below_size (gB HB.out)) : w.heap.size ≤ gb812)); have n3_ := n2_; clear HB; have HB := n0_; have BK812 := n1_; have GW812 := n2_; have GE812 := n3_; clear n0_ n1_ n2_ n3_; clear hb hbox hg) | ((with_reducible refine gate_dst (N := 2) rfl ?_); refine box_event ?hg (N := 2) ?hd (cs := #[.int .i64 0, .int .i64 0, .slice none 0 0, .slice none 0 0]) (t := 46) ?hr ?_; (case hd => rfl); (case hg => rfl); (case hr => first | (go_simp; done) | (go_simp; rfl)); intro gb813 hg w5 hbox hb; have n0_ := Aside0.mk (blk_below (gK BK812.out) hb); have n1_ := Aside0.mk (below_step (gB HB.out) hb); have n2_ := Aside0.mk (hbox); have n3_ := Aside0.mk ((by rw [hg]; exact (below_size (gB HB.out)) : w.heap.size ≤ gb813)); have n4_ := n3_; have n5_ := Aside0.mk ((by rw [hg]; exact Nat.ne_of_lt (blk_lt (gK BK812.out)) : gb812 ≠ gb813)); have n6_ := Aside0.mk ((by rw [hg]; exact Nat.ne_of_gt (blk_lt (gK BK812.out)) : gb813 ≠ gb812)); clear BK812; clear HB; have BK812 := n0_; have HB := n1_; have BK813 := n2_; have GW813 := n3_; have GE813 := n4_; have NB812_813 := n5_; have NB813_812 := n6_; clear n0_ n1_ n2_ n3_ n4_ n5_ n6_; clear hb hbox hg))
   have n0_ := Aside0.mk (blk_drew BK812.out)
   have n1_ := Aside0.mk (blk_drew BK813.out)
   have n2_ := Aside0.mk (below_drew1 HB.out)
   clear BK812
   clear BK813
   clear HB
   have BK812 := n0_
   have BK813 := n1_
   have HB := n2_
   clear n0_ n1_ n2_
   refine start_ (n := 14) (S := fun w' => w'.cell? ⟨gb812, 0, none⟩ = some (.int .i64 a0_0) ∧ w'.cell? ⟨gb812, 1, none⟩ = some (.int .i64 a0_1) ∧ w'.cell? ⟨gb812, 2, none⟩ = some (.slice A0_2 l0_2.length c0_2) ∧ w'.cell? ⟨gb812, 3, none⟩ = some (.slice A0_3 l0_3.length c0_3)) (ds := []) (.replicate 14 false) (by kernel_rfl) rfl rfl ⟨cz_ BK812.out 0 rfl, cz_ BK812.out 1 rfl, cz_ BK812.out 2 rfl, cz_ BK812.out 3 rfl⟩ (fun hHeld => ?_); refine with_tabW impl_clonePlan.tab1 impl_clonePlan.bits1 (fun HT_ HW_ => ?_)
   generalize w5.drew = w6 at BK812 BK813 HB hHeld ⊢
   refine pu_ 0 (some 3) (bv 14 1) rfl rfl (any_of HT_.out (by kernel_rfl)) (fun _ _ _ h => h) (by rfl) (fun w' => by go_simp; with_reducible rfl) (by simp only [Act.put, eA_, e0_, eS_, i64_w, i32_w]; rfl) ?_
   refine pu_ 2 (some 5) (bv 14 5) rfl rfl (any_of HT_.out (by kernel_rfl)) (fun _ _ _ h => h) (by rfl) (fun w' => by go_simp; with_reducible rfl) (by simp only [Act.put, eA_, e0_, eS_, i64_w, i32_w]; rfl) ?_
   refine pu_ 5 (some 8) (bv 14 37) rfl rfl (any_of HT_.out (by kernel_rfl)) (fun _ _ _ h => h) (by rfl) (fun w' => by go_simp; with_reducible rfl) (by simp only [Act.put, eA_, e0_, eS_, i64_w, i32_w]; rfl) ?_
   refine pu_ 9 (some 12) (bv 14 549) rfl rfl (any_of HT_.out (by kernel_rfl)) (fun _ _ _ h => h) (by rfl) (fun w' => by go_simp; with_reducible rfl) (by simp only [Act.put, eA_, e0_, eS_, i64_w, i32_w]; rfl) ?_
   refine tk_ 1 (some 4) (bv 14 551) rfl rfl (take_ofW HT_.out HW_.out (by kernel_rfl)) (fun _ _ _ h => h) (by rfl) hHeld (fun w' ⟨s0, s1, s2, s3⟩ => by go_simp; with_reducible rfl) (by simp only [Act.put, eA_, e0_, eS_, i64_w, i32_w]; rfl) ?_
   refine tk_ 3 (some 6) (bv 14 559) rfl rfl (take_ofW HT_.out HW_.out (by kernel_rfl)) (fun _ _ _ h => h) (by rfl) hHeld (fun w' ⟨s0, s1, s2, s3⟩ => by go_simp; with_reducible rfl) (by simp only [Act.put, eA_, e0_, eS_, i64_w, i32_w]; rfl) ?_
   refine tk_ 6 (some 9) (bv 14 623) rfl rfl (take_ofW HT_.out HW_.out (by kernel_rfl)) (fun _ _ _ h => h) (by rfl) hHeld (fun w' ⟨s0, s1, s2, s3⟩ => by go_simp; with_reducible rfl) (by simp only [Act.put, eA_, e0_, eS_, i64_w, i32_w]; rfl) ?_
   refine tk_ 10 (some 13) (bv 14 1647) rfl rfl (take_ofW HT_.out HW_.out (by kernel_rfl)) (fun _ _ _ h => h) (by rfl) hHeld (fun w' ⟨s0, s1, s2, s3⟩ => by go_simp; with_reducible rfl) (by simp only [Act.put, eA_, e0_, eS_, i64_w, i32_w]; rfl) ?_
   refine join_ (σ := Value × Value × Value) 3 (bv 14 2047) (fun s_ => [(7, s_.1), (10, s_.2.1), (11, s_.2.2)]) (fun s_ w' => (w'.cell? ⟨gb812, 0, none⟩ = some (.int .i64 a0_0) ∧ w'.cell? ⟨gb812, 1, none⟩ = some (.int .i64 a0_1) ∧ w'.cell? ⟨gb812, 2, none⟩ = some (.slice A0_2 l0_2.length c0_2) ∧ w'.cell? ⟨gb812, 3, none⟩ = some (.slice A0_3 l0_3.length c0_3)) ∧ (Kd.R (Kd.int .i64) 3 w' w.heap.size (fun k_ => some k_ ≠ (s_.2.2 : Value).ownBlock) s_.2.1 y817) ∧ (Kd.R (Kd.int .i64) 3 w' w.heap.size (fun k_ => some k_ ≠ (s_.2.1 : Value).ownBlock) s_.2.2 y820) ∧ (w'.heap[gb812]? = some (.cells #[.int .i64 a0_0, .int .i64 a0_1, .slice A0_2 l0_2.length c0_2, .slice A0_3 l0_3.length c0_3] 46 (0, 0))) ∧ (w'.heap[gb813]? = some (.cells #[.int .i64 0, .int .i64 0, .slice none 0 0, .slice none 0 0] 46 (0, 0))) ∧ (Below w.heap.size w w')) ?_ ?_
   rotate_left
   ·intro hCont
    refine two_ (i := 4) (j := 8) (Ni := some 7) (Nj := some 11) (bv 14 1663) (bv 14 1903) rfl rfl rfl rfl (two_of HT_.out (by kernel_rfl)) (by decide) (by decide) (fun K hK => ?_) (fun K hK => ?_)
    ·skip
     refine Kd.R_lit_step (Kd.int .i64) _ 3 ?hg (N := 7) ?hd (xs := ([] : List Int)) (inner := []) (ok := fun _ => True) (okp := fun _ => True) ?hr ?hp (fun _ hk => hk) trivial (Below.refl _ _) (Nat.le_refl _) (by simp) ?_; (case hd => rfl); (case hg => rfl); (case hr => first | (go_simp; done) | (go_simp; rfl)); (case hp => exact (Reps.none _ _))
     intro v815 w7 ho8 hb hg_ hnew_
     clear hg_ hnew_
     (first | rw [← Ny814.out] at ho8 | (simp only [Int.reduceToNat] at ho8; rw [← Ny814.out] at ho8))
     have n0_ := Aside0.mk (Kd.R_lower ho8 (below_size (gB HB.out)))
     have n1_ := Aside0.mk (blk_below (gK BK812.out) hb)
     have n2_ := Aside0.mk (blk_below (gK BK813.out) hb)
     have n3_ := Aside0.mk (below_step (gB HB.out) hb)
     clear BK812
     clear BK813
     clear HB
     have HO816 := n0_
     have BK812 := n1_
     have BK813 := n2_
     have HB := n3_
     clear n0_ n1_ n2_ n3_
     clear hb ho8
     refine hK.out _ _ ⟨cz_ BK812.out 0 rfl, cz_ BK812.out 1 rfl, cz_ BK812.out 2 rfl, cz_ BK812.out 3 rfl⟩ (fun hHeld => ?_)
     clear hK K
     refine norm_ (a' := ?_) ?_ ?_
     rotate_left
     ·show Act.put _ (some 7) _ = _
      simp only [Act.put, eA_, e0_, eS_, i64_w, i32_w]
      rfl
     refine two_ (i := 7) (j := 8) (Ni := some 10) (Nj := some 11) (bv 14 1791) (bv 14 1919) rfl rfl rfl rfl (two_of HT_.out (by kernel_rfl)) (by decide) (by decide) (fun K hK => ?_) (fun K hK => ?_)
     ·skip
      refine Kd.R_append_rows_step (Kd.int .i64) (w0 := w) w.heap.size (by rfl) (.tmp 7) (.tmp 9) 23 3 (.int .i64 0) 8 rfl Try.underlying23 info3 rfl (by decide) (by omega) v815 y814 l0_2 _ _ _ (fun _ => True) (fun _ => False) rfl rfl ?aO ?aR (fun _ _ h => h) (fun _ h => h.elim) ?aF ?aB ?aS ?aL ?_
      (case aR => exact gC (Kd.C_below HR0_2.out HB.out))
      (case aB => exact (gB HB.out))
      (case aF => exact (fun _ _ => trivial))
      (case aO => exact (gR HO816.out))
      (case aS => exact (below_size (gB HB.out)))
      (case aL => have := LMc2.out; omega)
      intro v818 w9 ho hb hg hat
      rw [← Ny817.out] at ho
      have n0_ := Aside0.mk (blk_grown (g := gb812) (o := .cells #[.int .i64 a0_0, .int .i64 a0_1, .slice A0_2 l0_2.length c0_2, .slice A0_3 l0_3.length c0_3] 46 (0, 0)) (gK BK812.out) hg (Kd.R_ne HO816.out BK812.out (by decide)))
      have n1_ := Aside0.mk (blk_grown (g := gb813) (o := .cells #[.int .i64 0, .int .i64 0, .slice none 0 0, .slice none 0 0] 46 (0, 0)) (gK BK813.out) hg (Kd.R_ne HO816.out BK813.out (by decide)))
      have n2_ := Aside0.mk (hb)
      have n3_ := Aside0.mk (ho)
      clear BK812
      clear BK813
      clear HB
      clear HO816
      have BK812 := n0_
      have BK813 := n1_
      have HB := n2_
      have HO819 := n3_
      clear n0_ n1_ n2_ n3_
      clear ho hb hg hat
      refine hK.out _ _ ⟨cz_ BK812.out 0 rfl, cz_ BK812.out 1 rfl, cz_ BK812.out 2 rfl, cz_ BK812.out 3 rfl⟩ (fun hHeld => ?_)
      clear hK K
      refine norm_ (a' := ?_) ?_ ?_
      rotate_left
      ·show Act.put _ (some 10) _ = _
       simp only [Act.put, eA_, e0_, eS_, i64_w, i32_w]
       rfl
      refine one_ (i := 8) (N := some 11) (bv 14 2047) rfl rfl (one_of HT_.out (by kernel_rfl)) (by decide) (fun K hK => ?_)
      refine Kd.R_lit_step (Kd.int .i64) _ 3 ?hg (N := 11) ?hd (xs := ([] : List Int)) (inner := []) (ok := fun _ => True) (okp := fun _ => True) ?hr ?hp (fun _ hk => hk) trivial (Below.refl _ _) (Nat.le_refl _) (by simp) ?_; (case hd => rfl); (case hg => rfl); (case hr => first | (go_simp; done) | (go_simp; rfl)); (case hp => exact (Reps.none _ _))
      intro v821 w10 ho11 hb hg_ hnew_
      clear hg_ hnew_
      (first | rw [← Ny820.out] at ho11 | (simp only [Int.reduceToNat] at ho11; rw [← Ny820.out] at ho11))
      have n0_ := Aside0.mk (Kd.R_elder' (gR HO819.out) (Kd.R_base ho11) hb)
      have n1_ := Aside0.mk (Kd.R_lower (Kd.R_new' ho11 (Kd.R_lt (gR HO819.out))) (below_size (gB HB.out)))
      have n2_ := Aside0.mk (blk_below (gK BK812.out) hb)
      have n3_ := Aside0.mk (blk_below (gK BK813.out) hb)
      have n4_ := Aside0.mk (below_step (gB HB.out) hb)
      clear HO819
      clear BK812
      clear BK813
      clear HB
      have HO819 := n0_
      have HO822 := n1_
      have BK812 := n2_
      have BK813 := n3_
      have HB := n4_
      clear n0_ n1_ n2_ n3_ n4_
      clear hb ho11
      refine hK.out _ _ ⟨cz_ BK812.out 0 rfl, cz_ BK812.out 1 rfl, cz_ BK812.out 2 rfl, cz_ BK812.out 3 rfl⟩ (fun hHeld => ?_)
      clear hK K
      refine norm_ (a' := ?_) ?_ ?_
      rotate_left
      ·show Act.put _ (some 11) _ = _
       simp only [Act.put, eA_, e0_, eS_, i64_w, i32_w]
       rfl
      exact norm_ (by simp only [putAll, Act.put, List.setIfInBounds_toArray, List.set_cons_zero, List.set_cons_succ]) (hCont (v815, v818, v821) _ ⟨hHeld, (by (with_reducible repeat (first | apply Kd.R_alloc | apply Kd.R_drewN | apply Kd.R_drew)); exact Kd.R_mono HO819.out (fun _ hk => hk.2)), (by (with_reducible repeat (first | apply Kd.R_alloc | apply Kd.R_drewN | apply Kd.R_drew)); exact Kd.R_mono HO822.out (fun _ hk => hk.2)), (gK BK812.out), (gK BK813.out), (gB HB.out)⟩)
     ·skip
      refine Kd.R_lit_step (Kd.int .i64) _ 3 ?hg (N := 11) ?hd (xs := ([] : List Int)) (inner := []) (ok := fun _ => True) (okp := fun _ => True) ?hr ?hp (fun _ hk => hk) trivial (Below.refl _ _) (Nat.le_refl _) (by simp) ?_; (case hd => rfl); (case hg => rfl); (case hr => first | (go_simp; done) | (go_simp; rfl)); (case hp => exact (Reps.none _ _))
      intro v821 w9 ho10 hb hg_ hnew_
      clear hg_ hnew_
      (first | rw [← Ny820.out] at ho10 | (simp only [Int.reduceToNat] at ho10; rw [← Ny820.out] at ho10))
      have n0_ := Aside0.mk (Kd.R_elder' (gR HO816.out) (Kd.R_base ho10) hb)
      have n1_ := Aside0.mk (Kd.R_lower (Kd.R_new' ho10 (Kd.R_lt (gR HO816.out))) (below_size (gB HB.out)))
      have n2_ := Aside0.mk (blk_below (gK BK812.out) hb)
      have n3_ := Aside0.mk (blk_below (gK BK813.out) hb)
      have n4_ := Aside0.mk (below_step (gB HB.out) hb)
      clear HO816
      clear BK812
      clear BK813
      clear HB
      have HO816 := n0_
      have HO822 := n1_
      have BK812 := n2_
      have BK813 := n3_
      have HB := n4_
      clear n0_ n1_ n2_ n3_ n4_
      clear hb ho10
      refine hK.out _ _ ⟨cz_ BK812.out 0 rfl, cz_ BK812.out 1 rfl, cz_ BK812.out 2 rfl, cz_ BK812.out 3 rfl⟩ (fun hHeld => ?_)
      clear hK K
      refine norm_ (a' := ?_) ?_ ?_
      rotate_left
      ·show Act.put _ (some 11) _ = _
       simp only [Act.put, eA_, e0_, eS_, i64_w, i32_w]
       rfl
      refine one_ (i := 7) (N := some 10) (bv 14 2047) rfl rfl (one_of HT_.out (by kernel_rfl)) (by decide) (fun K hK => ?_)
      refine Kd.R_append_rows_step (Kd.int .i64) (w0 := w) w.heap.size (by rfl) (.tmp 7) (.tmp 9) 23 3 (.int .i64 0) 8 rfl Try.underlying23 info3 rfl (by decide) (by omega) v815 y814 l0_2 _ _ _ (fun k_ => some k_ ≠ (v821 : Value).ownBlock) (fun _ => False) rfl rfl ?aO ?aR (fun _ _ h => h) (fun _ h => h.elim) ?aF ?aB ?aS ?aL ?_
      (case aR => exact gC (Kd.C_below HR0_2.out HB.out))
      (case aB => exact (gB HB.out))
      (case aF => exact (fun k_ hk => Kd.fresh' (Kd.R_lt (gR HO822.out)) k_ hk))
      (case aO => exact (by (with_reducible repeat (first | apply Kd.R_alloc | apply Kd.R_drewN | apply Kd.R_drew)); exact Kd.R_mono HO816.out (fun _ hk => hk.2)))
      (case aS => exact (below_size (gB HB.out)))
      (case aL => have := LMc2.out; omega)
      intro v818 w11 ho hb hg hat
      rw [← Ny817.out] at ho
      have n0_ := Aside0.mk (blk_grown (g := gb812) (o := .cells #[.int .i64 a0_0, .int .i64 a0_1, .slice A0_2 l0_2.length c0_2, .slice A0_3 l0_3.length c0_3] 46 (0, 0)) (gK BK812.out) hg (Kd.R_ne HO816.out BK812.out (by decide)))
      have n1_ := Aside0.mk (blk_grown (g := gb813) (o := .cells #[.int .i64 0, .int .i64 0, .slice none 0 0, .slice none 0 0] 46 (0, 0)) (gK BK813.out) hg (Kd.R_ne HO816.out BK813.out (by decide)))
      have n2_ := Aside0.mk (Kd.R_after (ok := (fun _ => True)) (gR HO822.out) hg hat)
      have n3_ := Aside0.mk (hb)
      have n4_ := Aside0.mk (ho)
      clear BK812
      clear BK813
      clear HO822
      clear HB
      clear HO816
      have BK812 := n0_
      have BK813 := n1_
      have HO822 := n2_
      have HB := n3_
      have HO819 := n4_
      clear n0_ n1_ n2_ n3_ n4_
      clear ho hb hg hat
      refine hK.out _ _ ⟨cz_ BK812.out 0 rfl, cz_ BK812.out 1 rfl, cz_ BK812.out 2 rfl, cz_ BK812.out 3 rfl⟩ (fun hHeld => ?_)
      clear hK K
      refine norm_ (a' := ?_) ?_ ?_
      rotate_left
      ·show Act.put _ (some 10) _ = _
       simp only [Act.put, eA_, e0_, eS_, i64_w, i32_w]
       rfl
      exact norm_ (by simp only [putAll, Act.put, List.setIfInBounds_toArray, List.set_cons_zero, List.set_cons_succ]) (hCont (v815, v818, v821) _ ⟨hHeld, (gR HO819.out), (by (with_reducible repeat (first | apply Kd.R_alloc | apply Kd.R_drewN | apply Kd.R_drew)); exact Kd.R_mono HO822.out (fun _ hk => hk.2)), (gK BK812.out), (gK BK813.out), (gB HB.out)⟩)
    ·skip
     refine Kd.R_lit_step (Kd.int .i64) _ 3 ?hg (N := 11) ?hd (xs := ([] : List Int)) (inner := []) (ok := fun _ => True) (okp := fun _ => True) ?hr ?hp (fun _ hk => hk) trivial (Below.refl _ _) (Nat.le_refl _) (by simp) ?_; (case hd => rfl); (case hg => rfl); (case hr => first | (go_simp; done) | (go_simp; rfl)); (case hp => exact (Reps.none _ _))
     intro v821 w7 ho8 hb hg_ hnew_
     clear hg_ hnew_
     (first | rw [← Ny820.out] at ho8 | (simp only [Int.reduceToNat] at ho8; rw [← Ny820.out] at ho8))
     have n0_ := Aside0.mk (Kd.R_lower ho8 (below_size (gB HB.out)))
     have n1_ := Aside0.mk (blk_below (gK BK812.out) hb)
     have n2_ := Aside0.mk (blk_below (gK BK813.out) hb)
     have n3_ := Aside0.mk (below_step (gB HB.out) hb)
     clear BK812
     clear BK813
     clear HB
     have HO822 := n0_
     have BK812 := n1_
     have BK813 := n2_
     have HB := n3_
     clear n0_ n1_ n2_ n3_
     clear hb ho8
     refine hK.out _ _ ⟨cz_ BK812.out 0 rfl, cz_ BK812.out 1 rfl, cz_ BK812.out 2 rfl, cz_ BK812.out 3 rfl⟩ (fun hHeld => ?_)
     clear hK K
     refine norm_ (a' := ?_) ?_ ?_
     rotate_left
     ·show Act.put _ (some 11) _ = _
      simp only [Act.put, eA_, e0_, eS_, i64_w, i32_w]
      rfl
     refine one_ (i := 4) (N := some 7) (bv 14 1919) rfl rfl (one_of HT_.out (by kernel_rfl)) (by decide) (fun K hK => ?_)
     refine Kd.R_lit_step (Kd.int .i64) _ 3 ?hg (N := 7) ?hd (xs := ([] : List Int)) (inner := []) (ok := fun _ => True) (okp := fun _ => True) ?hr ?hp (fun _ hk => hk) trivial (Below.refl _ _) (Nat.le_refl _) (by simp) ?_; (case hd => rfl); (case hg => rfl); (case hr => first | (go_simp; done) | (go_simp; rfl)); (case hp => exact (Reps.none _ _))
     intro v815 w9 ho10 hb hg_ hnew_
     clear hg_ hnew_
     (first | rw [← Ny814.out] at ho10 | (simp only [Int.reduceToNat] at ho10; rw [← Ny814.out] at ho10))
     have n0_ := Aside0.mk (Kd.R_elder' (gR HO822.out) (Kd.R_base ho10) hb)
     have n1_ := Aside0.mk (Kd.R_lower (Kd.R_new' ho10 (Kd.R_lt (gR HO822.out))) (below_size (gB HB.out)))
     have n2_ := Aside0.mk (blk_below (gK BK812.out) hb)
     have n3_ := Aside0.mk (blk_below (gK BK813.out) hb)
     have n4_ := Aside0.mk (below_step (gB HB.out) hb)
     clear HO822
     clear BK812
     clear BK813
     clear HB
     have HO822 := n0_
     have HO816 := n1_
     have BK812 := n2_
     have BK813 := n3_
     have HB := n4_
     clear n0_ n1_ n2_ n3_ n4_
     clear hb ho10
     refine hK.out _ _ ⟨cz_ BK812.out 0 rfl, cz_ BK812.out 1 rfl, cz_ BK812.out 2 rfl, cz_ BK812.out 3 rfl⟩ (fun hHeld => ?_)
     clear hK K
     refine norm_ (a' := ?_) ?_ ?_
     rotate_left
     ·show Act.put _ (some 7) _ = _
      simp only [Act.put, eA_, e0_, eS_, i64_w, i32_w]
      rfl
     refine one_ (i := 7) (N := some 10) (bv 14 2047) rfl rfl (one_of HT_.out (by kernel_rfl)) (by decide) (fun K hK => ?_)
     refine Kd.R_append_rows_step (Kd.int .i64) (w0 := w) w.heap.size (by rfl) (.tmp 7) (.tmp 9) 23 3 (.int .i64 0) 8 rfl Try.underlying23 info3 rfl (by decide) (by omega) v815 y814 l0_2 _ _ _ (fun k_ => some k_ ≠ (v821 : Value).ownBlock) (fun _ => False) rfl rfl ?aO ?aR (fun _ _ h => h) (fun _ h => h.elim) ?aF ?aB ?aS ?aL ?_
     (case aR => exact gC (Kd.C_below HR0_2.out HB.out))
     (case aB => exact (gB HB.out))
     (case aF => exact (fun k_ hk => Kd.fresh' (Kd.R_lt (gR HO822.out)) k_ hk))
     (case aO => exact (by (with_reducible repeat (first | apply Kd.R_alloc | apply Kd.R_drewN | apply Kd.R_drew)); exact Kd.R_mono HO816.out (fun _ hk => hk.2)))
     (case aS => exact (below_size (gB HB.out)))
     (case aL => have := LMc2.out; omega)
     intro v818 w11 ho hb hg hat
     rw [← Ny817.out] at ho
     have n0_ := Aside0.mk (blk_grown (g := gb812) (o := .cells #[.int .i64 a0_0, .int .i64 a0_1, .slice A0_2 l0_2.length c0_2, .slice A0_3 l0_3.length c0_3] 46 (0, 0)) (gK BK812.out) hg (Kd.R_ne HO816.out BK812.out (by decide)))
     have n1_ := Aside0.mk (blk_grown (g := gb813) (o := .cells #[.int .i64 0, .int .i64 0, .slice none 0 0, .slice none 0 0] 46 (0, 0)) (gK BK813.out) hg (Kd.R_ne HO816.out BK813.out (by decide)))
     have n2_ := Aside0.mk (Kd.R_after (ok := (fun _ => True)) (gR HO822.out) hg hat)
     have n3_ := Aside0.mk (hb)
     have n4_ := Aside0.mk (ho)
     clear BK812
     clear BK813
     clear HO822
     clear HB
     clear HO816
     have BK812 := n0_
     have BK813 := n1_
     have HO822 := n2_
     have HB := n3_
     have HO819 := n4_
     clear n0_ n1_ n2_ n3_ n4_
     clear ho hb hg hat
     refine hK.out _ _ ⟨cz_ BK812.out 0 rfl, cz_ BK812.out 1 rfl, cz_ BK812.out 2 rfl, cz_ BK812.out 3 rfl⟩ (fun hHeld => ?_)
     clear hK K
     refine norm_ (a' := ?_) ?_ ?_
     rotate_left
     ·show Act.put _ (some 10) _ = _
      simp only [Act.put, eA_, e0_, eS_, i64_w, i32_w]
      rfl
     exact norm_ (by simp only [putAll, Act.put, List.setIfInBounds_toArray, List.set_cons_zero, List.set_cons_succ]) (hCont (v815, v818, v821) _ ⟨hHeld, (gR HO819.out), (by (with_reducible repeat (first | apply Kd.R_alloc | apply Kd.R_drewN | apply Kd.R_drew)); exact Kd.R_mono HO822.out (fun _ hk => hk.2)), (gK BK812.out), (gK BK813.out), (gB HB.out)⟩)
   rintro ⟨v815, v818, v821⟩ w12 ⟨hS_, h0_, h1_, h2_, h3_, h4_⟩
   have n0_ : Aside0 (Kd.R (Kd.int .i64) 3 w12 w.heap.size (fun k_ => some k_ ≠ (v821 : Value).ownBlock) v818 y817) := ⟨h0_⟩
   have n1_ : Aside0 (Kd.R (Kd.int .i64) 3 w12 w.heap.size (fun k_ => some k_ ≠ (v818 : Value).ownBlock) v821 y820) := ⟨h1_⟩
   have n2_ : Aside0 (w12.heap[gb812]? = some (.cells #[.int .i64 a0_0, .int .i64 a0_1, .slice A0_2 l0_2.length c0_2, .slice A0_3 l0_3.length c0_3] 46 (0, 0))) := ⟨h2_⟩
   have n3_ : Aside0 (w12.heap[gb813]? = some (.cells #[.int .i64 0, .int .i64 0, .slice none 0 0, .slice none 0 0] 46 (0, 0))) := ⟨h3_⟩
   have n4_ : Aside0 (Below w.heap.size w w12) := ⟨h4_⟩
   clear BK812
   clear BK813
   clear HB
   clear h0_ h1_ h2_ h3_ h4_
   have HO819 := n0_
   have HO822 := n1_
   have BK812 := n2_
   have BK813 := n3_
   have HB := n4_
   clear n0_ n1_ n2_ n3_ n4_
   have hHeld : w12.cell? ⟨gb812, 0, none⟩ = some (.int .i64 a0_0) ∧ w12.cell? ⟨gb812, 1, none⟩ = some (.int .i64 a0_1) ∧ w12.cell? ⟨gb812, 2, none⟩ = some (.slice A0_2 l0_2.length c0_2) ∧ w12.cell? ⟨gb812, 3, none⟩ = some (.slice A0_3 l0_3.length c0_3) := hS_
   refine norm_ (a' := ?_) ?_ ?_
   rotate_left
   ·simp only [putAll, Act.put, List.setIfInBounds_toArray, List.set_cons_zero, List.set_cons_succ]
    rfl
   refine one_ (i := 11) (N := some 14) (bv 14 4095) rfl rfl (one_of HT_.out (by kernel_rfl)) (by decide) (fun K hK => ?_)
   refine Kd.R_append_rows_step (Kd.int .i64) (w0 := w) w.heap.size (by rfl) (.tmp 11) (.tmp 13) 23 3 (.int .i64 0) 8 rfl Try.underlying23 info3 rfl (by decide) (by omega) v821 y820 l0_3 _ _ _ (fun k_ => some k_ ≠ (v818 : Value).ownBlock) (fun _ => False) rfl rfl ?aO ?aR (fun _ _ h => h) (fun _ h => h.elim) ?aF ?aB ?aS ?aL ?_
   (case aR => exact gC (Kd.C_below HR0_3.out HB.out))
   (case aB => exact (gB HB.out))
   (case aF => exact (fun k_ hk => Kd.fresh' (Kd.R_lt (gR HO819.out)) k_ hk))
   (case aO => exact (gR HO822.out))
   (case aS => exact (below_size (gB HB.out)))
   (case aL => have := LMc3.out; omega)
   intro v824 w13 ho hb hg hat
   rw [← Ny823.out] at ho
   have n0_ := Aside0.mk (blk_grown (g := gb812) (o := .cells #[.int .i64 a0_0, .int .i64 a0_1, .slice A0_2 l0_2.length c0_2, .slice A0_3 l0_3.length c0_3] 46 (0, 0)) (gK BK812.out) hg (Kd.R_ne HO822.out BK812.out (by decide)))
   have n1_ := Aside0.mk (blk_grown (g := gb813) (o := .cells #[.int .i64 0, .int .i64 0, .slice none 0 0, .slice none 0 0] 46 (0, 0)) (gK BK813.out) hg (Kd.R_ne HO822.out BK813.out (by decide)))
   have n2_ := Aside0.mk (Kd.R_after (ok := (fun _ => True)) (by (with_reducible repeat (first | apply Kd.R_alloc | apply Kd.R_drewN | apply Kd.R_drew)); exact Kd.R_mono HO819.out (fun _ hk => ⟨trivial, hk⟩)) hg hat)
   have n3_ := Aside0.mk (hb)
   have n4_ := Aside0.mk (ho)
   clear BK812
   clear BK813
   clear HO819
   clear HB
   clear HO822
   have BK812 := n0_
   have BK813 := n1_
   have HO819 := n2_
   have HB := n3_
   have HO825 := n4_
   clear n0_ n1_ n2_ n3_ n4_
   clear ho hb hg hat
   obtain ⟨Ao14, co14, eo14⟩ := Kd.R_slice HO825.out
   (first | subst eo14 | (injection eo14 with f1_ f2_ f3_; have f4_ := f1_.symm; have f5_ := f3_.symm; clear f1_ f2_ f3_; subst f4_; subst f5_))
   obtain ⟨Ao15, co15, eo15⟩ := Kd.R_slice HO819.out
   (first | subst eo15 | (injection eo15 with f1_ f2_ f3_; have f4_ := f1_.symm; have f5_ := f3_.symm; clear f1_ f2_ f3_; subst f4_; subst f5_))
   refine hK.out _ _ ⟨cz_ BK812.out 0 rfl, cz_ BK812.out 1 rfl, cz_ BK812.out 2 rfl, cz_ BK812.out 3 rfl⟩ (fun hHeld => ?_)
   clear hK K
   refine norm_ (a' := ?_) ?_ ?_
   rotate_left
   ·show Act.put _ (some 14) _ = _
    simp only [Act.put, eA_, e0_, eS_, i64_w, i32_w]
    rfl
   refine pu_ 12 (some 15) (bv 14 8191) rfl rfl (any_of HT_.out (by kernel_rfl)) (fun _ _ _ h => h) (by rfl) (fun w' => by go_simp; with_reducible rfl) (by simp only [Act.put, eA_, e0_, eS_, i64_w, i32_w]; rfl) ?_
   refine one_ (i := 13) (N := none) (bv 14 16383) rfl rfl (one_of HT_.out (by kernel_rfl)) (by decide) (fun K hK => ?_)
   have hs16 : w13.cell? ⟨gb813, 0, none⟩ = some (.int .i64 0) := cz_ BK813.out 0 rfl
   have hfs16 := blk_frozen BK813.out 0
   have hns16_0 := NB812_813.out
   have hms16_0 := NB813_812.out
   have hs17 : w13.cell? ⟨gb813, 1, none⟩ = some (.int .i64 0) := cz_ BK813.out 1 rfl
   have hfs17 := blk_frozen BK813.out 1
   have hns17_0 := NB812_813.out
   have hms17_0 := NB813_812.out
   have hs18 : w13.cell? ⟨gb813, 2, none⟩ = some (.slice none 0 0) := cz_ BK813.out 2 rfl
   have hfs18 := blk_frozen BK813.out 2
   have hns18_0 := NB812_813.out
   have hms18_0 := NB813_812.out
   have hs19 : w13.cell? ⟨gb813, 3, none⟩ = some (.slice none 0 0) := cz_ BK813.out 3 rfl
   have hfs19 := blk_frozen BK813.out 3
   have hns19_0 := NB812_813.out
   have hms19_0 := NB813_812.out
   refine skip_ (w1 := ?_) (by rfl) rfl ?_ ?_
   rotate_left
   ·go_simp
    rfl
   refine hK.out _ _ ⟨((cell_far (p := ⟨gb813, _, none⟩) NB812_813.out _).trans (((cell_far (p := ⟨gb813, _, none⟩) NB812_813.out _).trans (((cell_far (p := ⟨gb813, _, none⟩) NB812_813.out _).trans (((cell_far (p := ⟨gb813, _, none⟩) NB812_813.out _).trans (hHeld.1)))))))), ((cell_far (p := ⟨gb813, _, none⟩) NB812_813.out _).trans (((cell_far (p := ⟨gb813, _, none⟩) NB812_813.out _).trans (((cell_far (p := ⟨gb813, _, none⟩) NB812_813.out _).trans (((cell_far (p := ⟨gb813, _, none⟩) NB812_813.out _).trans (hHeld.2.1)))))))), ((cell_far (p := ⟨gb813, _, none⟩) NB812_813.out _).trans (((cell_far (p := ⟨gb813, _, none⟩) NB812_813.out _).trans (((cell_far (p := ⟨gb813, _, none⟩) NB812_813.out _).trans (((cell_far (p := ⟨gb813, _, none⟩) NB812_813.out _).trans (hHeld.2.2.1)))))))), ((cell_far (p := ⟨gb813, _, none⟩) NB812_813.out _).trans (((cell_far (p := ⟨gb813, _, none⟩) NB812_813.out _).trans (((cell_far (p := ⟨gb813, _, none⟩) NB812_813.out _).trans (((cell_far (p := ⟨gb813, _, none⟩) NB812_813.out _).trans (hHeld.2.2.2))))))))⟩ (fun hHeld => ?_)
   clear hK K
   refine done_ (done_of HT_.out (by kernel_rfl)) ?_
   try go_wp2
   refine bodyPost_ret (results_cell_row rfl _ _ gb813 46 #[.int .i64 a0_0, .int .i64 a0_1, .slice Ao15 y817.length co15, .slice Ao14 y823.length co14] (0, 0) _ rfl (by (with_reducible repeat (first | refine blk_drewN ?_ _ | refine blk_drew ?_ | refine blk_alloc ?_ _)); refine blk_put (cs := #[.int .i64 a0_0, .int .i64 a0_1, .slice Ao15 y817.length co15, .slice none 0 0]) ?_ 3 _ rfl; (with_reducible repeat (first | refine blk_drewN ?_ _ | refine blk_drew ?_ | refine blk_alloc ?_ _)); refine blk_put (cs := #[.int .i64 a0_0, .int .i64 a0_1, .slice none 0 0, .slice none 0 0]) ?_ 2 _ rfl; (with_reducible repeat (first | refine blk_drewN ?_ _ | refine blk_drew ?_ | refine blk_alloc ?_ _)); refine blk_put (cs := #[.int .i64 a0_0, .int .i64 0, .slice none 0 0, .slice none 0 0]) ?_ 1 _ rfl; (with_reducible repeat (first | refine blk_drewN ?_ _ | refine blk_drew ?_ | refine blk_alloc ?_ _)); refine blk_put (cs := #[.int .i64 0, .int .i64 0, .slice none 0 0, .slice none 0 0]) ?_ 0 _ rfl; (with_reducible repeat (first | refine blk_drewN ?_ _ | refine blk_drew ?_ | refine blk_alloc ?_ _)); exact BK813.out) Try.underlying46 rfl (by kernel_rfl)) rfl ?_
   exact ⟨_, _, by first | rfl | (simp [errW_none, errW_some] <;> rfl) | (simp [*, errW_none, errW_some] <;> rfl), by (with_reducible repeat (first | apply Kd.R_alloc | apply Kd.R_drewN | apply Kd.R_drew)); exact Kd.R_mono (Kd.R_far (p := ⟨gb813, 3, none⟩) (Kd.R_far (p := ⟨gb813, 2, none⟩) (Kd.R_far (p := ⟨gb813, 1, none⟩) (Kd.R_far (p := ⟨gb813, 0, none⟩) (Kd.R_types HO819.out BK813.out (by decide)) (fun _ hk => hk.2) (.int .i64 a0_0)) (fun _ hk => hk.2) (.int .i64 a0_1)) (fun _ hk => hk.2) (.slice Ao15 y817.length co15)) (fun _ hk => hk.2) (.slice Ao14 y823.length co14)) (fun _ hk => hk.1.2), by (with_reducible repeat (first | apply Kd.R_alloc | apply Kd.R_drewN | apply Kd.R_drew)); exact Kd.R_mono (Kd.R_far (p := ⟨gb813, 3, none⟩) (Kd.R_far (p := ⟨gb813, 2, none⟩) (Kd.R_far (p := ⟨gb813, 1, none⟩) (Kd.R_far (p := ⟨gb813, 0, none⟩) (Kd.R_types HO825.out BK813.out (by decide)) (fun _ hk => hk.2) (.int .i64 a0_0)) (fun _ hk => hk.2) (.int .i64 a0_1)) (fun _ hk => hk.2) (.slice Ao15 y817.length co15)) (fun _ hk => hk.2) (.slice Ao14 y823.length co14)) (fun _ hk => hk.1), by repeat (first | (with_reducible first | exact HB.out | apply below_alloc | apply pw_below_drewN | apply below_drew1 | refine below_set ?_ GE812.out | refine below_set ?_ GE813.out) | exact HB.out)⟩
  ·rw [if_neg c3] at H
   exact absurd H (by simp)
 ·rw [if_neg c2] at H
  exact absurd H (by simp)

/-! ### impl_SolverNew: function 92 -/
def impl_SolverNew.f (a0 : Int) (a1 : Int) : Option (Int × Int × (List (S84))) := (impl_within.f a0 1 24).bind fun t827 => (if t827 = true then ((impl_within.f a1 1 16).bind fun t828 => (if t828 = true then (some (a0, a1, (([] : List (S84))))) else (some (0, 0, ([] : List (S84)))))) else (some (0, 0, ([] : List (S84)))))
set_option maxHeartbeats 8000000 in
set_option maxRecDepth 100000 in
theorem impl_SolverNew.calls (a0 : Int) (a1 : Int) (r1 : Int) (r2 : Int) (r3 : List (S84)) (w : World) (h : impl_SolverNew.f a0 a1 = some (r1, r2, r3)) :
 Calls Try.prog 92 #[.int .i64 a0, .int .i64 a1] w fun e w' => ∃ v2_ : Value, e = .returned (.agg #[.int .i64 r1, .int .i64 r2, v2_]) ∧ Kd.S k84 84 w' w.heap.size (fun _ => True) v2_ r3 ∧ Below w.heap.size w w' := by
 have hu37 := Try.underlying37
 have HB := Aside0.mk (Below.refl w.heap.size w)
 have H : ((impl_within.f a0 1 24).bind fun t827 => (if t827 = true then ((impl_within.f a1 1 16).bind fun t828 => (if t828 = true then (some (a0, a1, (([] : List (S84))))) else (some (0, 0, ([] : List (S84)))))) else (some (0, 0, ([] : List (S84)))))) = some (r1, r2, r3) := h
 clear h
 replace H := bI_ H
 obtain ⟨t827, A30, H⟩ := H
 replace H : (if t827 = true then ((impl_within.f a1 1 16).bind fun t828 => (if t828 = true then (some (a0, a1, (([] : List (S84))))) else (some (0, 0, ([] : List (S84)))))) else (some (0, 0, ([] : List (S84))))) = some (r1, r2, r3) := H
 have A3 := Aside0.mk A30
 clear A30
 by_cases c4 : t827 = true
 ·subst c4
  have H1 : ((impl_within.f a1 1 16).bind fun t828 => (if t828 = true then (some (a0, a1, (([] : List (S84))))) else (some (0, 0, ([] : List (S84)))))) = some (r1, r2, r3) := by rw [if_pos rfl] at H; exact H
  clear H
  have H := H1
  clear H1
  replace H := bI_ H
  obtain ⟨t828, A50, H⟩ := H
  replace H : (if t828 = true then (some (a0, a1, (([] : List (S84))))) else (some (0, 0, ([] : List (S84))))) = some (r1, r2, r3) := H
  have A5 := Aside0.mk A50
  clear A50
  by_cases c6 : t828 = true
  ·subst c6
   have H1 : (some (a0, a1, (([] : List (S84))))) = some (r1, r2, r3) := by rw [if_pos rfl] at H; exact H
   clear H
   have H := H1
   clear H1
   obtain ⟨y829, hy829⟩ : ∃ y_ : List (S84), y_ = (([] : List (S84))) := ⟨_, rfl⟩
   replace H : (some (a0, a1, y829)) = some (r1, r2, r3) := by first | (rw [hy829]; with_reducible exact H) | (have H2_ := (Option.bind_some _ _).symm.trans H; rw [hy829]; with_reducible exact H2_) | (have H2_ := (Option.bind_some _ _).symm.trans H; with_reducible exact H2_) | with_reducible exact H | (rw [hy829]; exact H) | exact H
   have Ny829 := Aside0.mk hy829
   clear hy829
   simp only [Option.some.injEq, Prod.mk.injEq] at H
   obtain ⟨rfl, rfl, rfl⟩ := H
   go_enter Try.func92, Try.ntmps92
   go_wp2_with (first | ((with_reducible refine gate_dst (N := 4) rfl ?_); refine box_event ?hg (N := 4) ?hd (cs := #[.int .i64 0, .int .i64 0, .slice none 0 0]) (t := 37) ?hr ?_; (case hd => rfl); (case hg => rfl); (case hr => first | (go_simp; done) | (go_simp; rfl)); intro gb826 hg w7 hbox hb; have n0_ := Aside0.mk (below_step (gB HB.out) hb); have n1_ := Aside0.mk (hbox); have n2_ := Aside0.mk ((by rw [hg]; exact (below_size (gB HB.out)) : w.heap.size ≤ gb826)); have n3_ := n2_; clear HB; have HB := n0_; have BK826 := n1_; have GW826 := n2_; have GE826 := n3_; clear n0_ n1_ n2_ n3_; clear hb hbox hg) | ((with_reducible refine gate_callee (f := 66) rfl ?_); refine goesL_ (some 6) rfl rfl Try.func66 (by kernel_rfl) rfl #[.int .i64 a0, .int .i64 1, .int .i64 24] rfl (by (try simp only [List.map_toArray, List.map_cons, List.map_nil]); first | done | rfl | (simp only [List.length_drop, List.length_take]; rfl)) ?_; (with_reducible refine (impl_within.calls a0 1 24 true _ A3.out).mono ?_); rintro e w' ⟨rfl, ⟨nd, rfl⟩⟩; refine ⟨_, rfl, ?_⟩; (try (rw [drewN_self w7]; generalize hq_ : World.drewN w7 _ = w7; have n0_ : Aside0 (w7.heap[gb826]? = some (.cells #[.int .i64 0, .int .i64 0, .slice none 0 0] 37 (0, 0))) := ⟨by rw [← hq_]; exact (gK BK826.out)⟩; have n1_ : Aside0 (Below w.heap.size w w7) := ⟨by rw [← hq_]; exact (gB HB.out)⟩; clear BK826 HB hq_; have BK826 := n0_; have HB := n1_; clear n0_ n1_))) | (go_at_call 66; (with_reducible refine (impl_within.calls a1 1 16 true _ A5.out).mono ?_); rintro e w' ⟨rfl, ⟨nd, rfl⟩⟩; (try (rw [drewN_self w7]; generalize hq_ : World.drewN w7 _ = w7; have n0_ : Aside0 (w7.heap[gb826]? = some (.cells #[.int .i64 0, .int .i64 0, .slice none 0 0] 37 (0, 0))) := ⟨by rw [← hq_]; exact (gK BK826.out)⟩; have n1_ : Aside0 (Below w.heap.size w w7) := ⟨by rw [← hq_]; exact (gB HB.out)⟩; clear BK826 HB hq_; have BK826 := n0_; have HB := n1_; clear n0_ n1_))) | ((with_reducible refine gate_dst (N := 16) rfl ?_); refine Kd.S_lit k84 _ 84 ?hg (N := 16) ?hd (xs := ([] : List (S84))) (inner := []) (ok := fun _ => True) (okp := fun _ => True) ?hr ?hp (fun _ hk => hk) trivial (Below.refl _ _) (Nat.le_refl _) (by simp) ?_; (case hd => rfl); (case hg => rfl); (case hr => first | (go_simp; done) | (go_simp; rfl)); (case hp => exact (Reps.none _ _)); intro v830 w8 ho9 hb hg_ hnew_; clear hg_ hnew_; (first | rw [← Ny829.out] at ho9 | (simp only [Int.reduceToNat] at ho9; rw [← Ny829.out] at ho9)); have n0_ := Aside0.mk (Kd.S_lower ho9 (below_size (gB HB.out))); have n1_ := Aside0.mk (blk_below (gK BK826.out) hb); have n2_ := Aside0.mk (below_step (gB HB.out) hb); clear BK826; clear HB; have HO831 := n0_; have BK826 := n1_; have HB := n2_; clear n0_ n1_ n2_; clear hb ho9; obtain ⟨Ao10, co10, eo10⟩ := Kd.S_slice HO831.out; subst eo10; have hcz11_0 := cz_ BK826.out 0 rfl; have hcz11_1 := cz_ BK826.out 1 rfl; have hcz11_2 := cz_ BK826.out 2 rfl; have hfz11_0 := blk_frozen BK826.out 0; have hfz11_1 := blk_frozen BK826.out 1; have hfz11_2 := blk_frozen BK826.out 2))
   refine bodyPost_ret (results_cell_row rfl _ _ gb826 37 #[.int .i64 a0, .int .i64 a1, .slice Ao10 y829.length co10] (0, 0) _ rfl (by (with_reducible repeat (first | refine blk_drewN ?_ _ | refine blk_drew ?_ | refine blk_alloc ?_ _)); refine blk_put (cs := #[.int .i64 a0, .int .i64 a1, .slice none 0 0]) ?_ 2 _ rfl; (with_reducible repeat (first | refine blk_drewN ?_ _ | refine blk_drew ?_ | refine blk_alloc ?_ _)); refine blk_put (cs := #[.int .i64 a0, .int .i64 0, .slice none 0 0]) ?_ 1 _ rfl; (with_reducible repeat (first | refine blk_drewN ?_ _ | refine blk_drew ?_ | refine blk_alloc ?_ _)); refine blk_put (cs := #[.int .i64 0, .int .i64 0, .slice none 0 0]) ?_ 0 _ rfl; (with_reducible repeat (first | refine blk_drewN ?_ _ | refine blk_drew ?_ | refine blk_alloc ?_ _)); exact BK826.out) Try.underlying37 rfl (by kernel_rfl)) rfl ?_
   exact ⟨_, by first | rfl | (simp [errW_none, errW_some] <;> rfl) | (simp [*, errW_none, errW_some] <;> rfl), by (with_reducible repeat (first | apply Kd.S_alloc | apply Kd.S_drewN | apply Kd.S_drew)); exact Kd.S_mono (Kd.S_far (p := ⟨gb826, 2, none⟩) (Kd.S_far (p := ⟨gb826, 1, none⟩) (Kd.S_far (p := ⟨gb826, 0, none⟩) (Kd.S_types HO831.out BK826.out (by decide)) (fun _ hk => hk.2) (.int .i64 a0)) (fun _ hk => hk.2) (.int .i64 a1)) (fun _ hk => hk.2) (.slice Ao10 y829.length co10)) (fun _ hk => trivial), by repeat (first | (with_reducible first | exact HB.out | apply below_alloc | apply pw_below_drewN | apply below_drew1 | refine below_set ?_ GE826.out) | exact HB.out)⟩
  ·replace c6 := Bool.eq_false_iff.mpr c6
   subst c6
   have H1 : (some (0, 0, ([] : List (S84)))) = some (r1, r2, r3) := by rw [if_neg (show ¬ (false = true) by decide)] at H; exact H
   clear H
   have H := H1
   clear H1
   simp only [Option.some.injEq, Prod.mk.injEq] at H
   obtain ⟨rfl, rfl, rfl⟩ := H
   go_enter Try.func92, Try.ntmps92
   go_wp2_with (first | ((with_reducible refine gate_dst (N := 4) rfl ?_); refine box_event ?hg (N := 4) ?hd (cs := #[.int .i64 0, .int .i64 0, .slice none 0 0]) (t := 37) ?hr ?_; (case hd => rfl); (case hg => rfl); (case hr => first | (go_simp; done) | (go_simp; rfl)); intro gb826 hg w12 hbox hb; have n0_ := Aside0.mk (below_step (gB HB.out) hb); have n1_ := Aside0.mk (hbox); have n2_ := Aside0.mk ((by rw [hg]; exact (below_size (gB HB.out)) : w.heap.size ≤ gb826)); have n3_ := n2_; clear HB; have HB := n0_; have BK826 := n1_; have GW826 := n2_; have GE826 := n3_; clear n0_ n1_ n2_ n3_; clear hb hbox hg) | ((with_reducible refine gate_callee (f := 66) rfl ?_); refine goesL_ (some 6) rfl rfl Try.func66 (by kernel_rfl) rfl #[.int .i64 a0, .int .i64 1, .int .i64 24] rfl (by (try simp only [List.map_toArray, List.map_cons, List.map_nil]); first | done | rfl | (simp only [List.length_drop, List.length_take]; rfl)) ?_; (with_reducible refine (impl_within.calls a0 1 24 true _ A3.out).mono ?_); rintro e w' ⟨rfl, ⟨nd, rfl⟩⟩; refine ⟨_, rfl, ?_⟩; (try (rw [drewN_self w12]; generalize hq_ : World.drewN w12 _ = w12; have n0_ : Aside0 (w12.heap[gb826]? = some (.cells #[.int .i64 0, .int .i64 0, .slice none 0 0] 37 (0, 0))) := ⟨by rw [← hq_]; exact (gK BK826.out)⟩; have n1_ : Aside0 (Below w.heap.size w w12) := ⟨by rw [← hq_]; exact (gB HB.out)⟩; clear BK826 HB hq_; have BK826 := n0_; have HB := n1_; clear n0_ n1_))) | (go_at_call 66; (with_reducible refine (impl_within.calls a1 1 16 false _ A5.out).mono ?_); rintro e w' ⟨rfl, ⟨nd, rfl⟩⟩; (try (rw [drewN_self w12]; generalize hq_ : World.drewN w12 _ = w12; have n0_ : Aside0 (w12.heap[gb826]? = some (.cells #[.int .i64 0, .int .i64 0, .slice none 0 0] 37 (0, 0))) := ⟨by rw [← hq_]; exact (gK BK826.out)⟩; have n1_ : Aside0 (Below w.heap.size w w12) := ⟨by rw [← hq_]; exact (gB HB.out)⟩; clear BK826 HB hq_; have BK826 := n0_; have HB := n1_; clear n0_ n1_)); have hcz13_0 := cz_ BK826.out 0 rfl; have hcz13_1 := cz_ BK826.out 1 rfl; have hcz13_2 := cz_ BK826.out 2 rfl; have hfz13_0 := blk_frozen BK826.out 0; have hfz13_1 := blk_frozen BK826.out 1; have hfz13_2 := blk_frozen BK826.out 2))
   refine bodyPost_ret (results_cell_row rfl _ _ gb826 37 #[.int .i64 0, .int .i64 0, .slice none 0 0] (0, 0) _ rfl (by (with_reducible repeat (first | refine blk_drewN ?_ _ | refine blk_drew ?_ | refine blk_alloc ?_ _)); refine blk_put (cs := #[.int .i64 0, .int .i64 0, .slice none 0 0]) ?_ 2 _ rfl; (with_reducible repeat (first | refine blk_drewN ?_ _ | refine blk_drew ?_ | refine blk_alloc ?_ _)); refine blk_put (cs := #[.int .i64 0, .int .i64 0, .slice none 0 0]) ?_ 1 _ rfl; (with_reducible repeat (first | refine blk_drewN ?_ _ | refine blk_drew ?_ | refine blk_alloc ?_ _)); refine blk_put (cs := #[.int .i64 0, .int .i64 0, .slice none 0 0]) ?_ 0 _ rfl; (with_reducible repeat (first | refine blk_drewN ?_ _ | refine blk_drew ?_ | refine blk_alloc ?_ _)); exact BK826.out) Try.underlying37 rfl (by kernel_rfl)) rfl ?_
   exact ⟨_, by first | rfl | (simp [errW_none, errW_some] <;> rfl) | (simp [*, errW_none, errW_some] <;> rfl), by first | exact Kd.S_nil _ _ _ _ _ | exact Kd.N_nil _ _ _ _ _ | exact Kd.V_nil _ _ _ _ _ | exact Kd.Q_nil _ _ _ _ _ | exact Kd.R_nil _ _ _ _ _, by repeat (first | (with_reducible first | exact HB.out | apply below_alloc | apply pw_below_drewN | apply below_drew1 | refine below_set ?_ GE826.out) | exact HB.out)⟩
 ·replace c4 := Bool.eq_false_iff.mpr c4
  subst c4
  have H1 : (some (0, 0, ([] : List (S84)))) = some (r1, r2, r3) := by rw [if_neg (show ¬ (false = true) by decide)] at H; exact H
  clear H
  have H := H1
  clear H1
  simp only [Option.some.injEq, Prod.mk.injEq] at H
  obtain ⟨rfl, rfl, rfl⟩ := H
  go_enter Try.func92, Try.ntmps92
  go_wp2_with (first | ((with_reducible refine gate_dst (N := 4) rfl ?_); refine box_event ?hg (N := 4) ?hd (cs := #[.int .i64 0, .int .i64 0, .slice none 0 0]) (t := 37) ?hr ?_; (case hd => rfl); (case hg => rfl); (case hr => first | (go_simp; done) | (go_simp; rfl)); intro gb826 hg w14 hbox hb; have n0_ := Aside0.mk (below_step (gB HB.out) hb); have n1_ := Aside0.mk (hbox); have n2_ := Aside0.mk ((by rw [hg]; exact (below_size (gB HB.out)) : w.heap.size ≤ gb826)); have n3_ := n2_; clear HB; have HB := n0_; have BK826 := n1_; have GW826 := n2_; have GE826 := n3_; clear n0_ n1_ n2_ n3_; clear hb hbox hg) | ((with_reducible refine gate_callee (f := 66) rfl ?_); refine goesL_ (some 6) rfl rfl Try.func66 (by kernel_rfl) rfl #[.int .i64 a0, .int .i64 1, .int .i64 24] rfl (by (try simp only [List.map_toArray, List.map_cons, List.map_nil]); first | done | rfl | (simp only [List.length_drop, List.length_take]; rfl)) ?_; (with_reducible refine (impl_within.calls a0 1 24 false _ A3.out).mono ?_); rintro e w' ⟨rfl, ⟨nd, rfl⟩⟩; refine ⟨_, rfl, ?_⟩; (try (rw [drewN_self w14]; generalize hq_ : World.drewN w14 _ = w14; have n0_ : Aside0 (w14.heap[gb826]? = some (.cells #[.int .i64 0, .int .i64 0, .slice none 0 0] 37 (0, 0))) := ⟨by rw [← hq_]; exact (gK BK826.out)⟩; have n1_ : Aside0 (Below w.heap.size w w14) := ⟨by rw [← hq_]; exact (gB HB.out)⟩; clear BK826 HB hq_; have BK826 := n0_; have HB := n1_; clear n0_ n1_)); have hcz15_0 := cz_ BK826.out 0 rfl; have hcz15_1 := cz_ BK826.out 1 rfl; have hcz15_2 := cz_ BK826.out 2 rfl; have hfz15_0 := blk_frozen BK826.out 0; have hfz15_1 := blk_frozen BK826.out 1; have hfz15_2 := blk_frozen BK826.out 2))
  refine bodyPost_ret (results_cell_row rfl _ _ gb826 37 #[.int .i64 0, .int .i64 0, .slice none 0 0] (0, 0) _ rfl (by (with_reducible repeat (first | refine blk_drewN ?_ _ | refine blk_drew ?_ | refine blk_alloc ?_ _)); refine blk_put (cs := #[.int .i64 0, .int .i64 0, .slice none 0 0]) ?_ 2 _ rfl; (with_reducible repeat (first | refine blk_drewN ?_ _ | refine blk_drew ?_ | refine blk_alloc ?_ _)); refine blk_put (cs := #[.int .i64 0, .int .i64 0, .slice none 0 0]) ?_ 1 _ rfl; (with_reducible repeat (first | refine blk_drewN ?_ _ | refine blk_drew ?_ | refine blk_alloc ?_ _)); refine blk_put (cs := #[.int .i64 0, .int .i64 0, .slice none 0 0]) ?_ 0 _ rfl; (with_reducible repeat (first | refine blk_drewN ?_ _ | refine blk_drew ?_ | refine blk_alloc ?_ _)); exact BK826.out) Try.underlying37 rfl (by kernel_rfl)) rfl ?_
  exact ⟨_, by first | rfl | (simp [errW_none, errW_some] <;> rfl) | (simp [*, errW_none, errW_some] <;> rfl), by first | exact Kd.S_nil _ _ _ _ _ | exact Kd.N_nil _ _ _ _ _ | exact Kd.V_nil _ _ _ _ _ | exact Kd.Q_nil _ _ _ _ _ | exact Kd.R_nil _ _ _ _ _, by repeat (first | (with_reducible first | exact HB.out | apply below_alloc | apply pw_below_drewN | apply below_drew1 | refine below_set ?_ GE826.out) | exact HB.out)⟩

end Go.Proofs.Ytaeeickboakmgaa.X
