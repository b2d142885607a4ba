/- Printed for this claim by the session's program (the kit's printer, several laws in one place): the functions that the law reaches, each as a plain Lean function, and the proof that the Go code comes to its answers. Conditions: none beside those that each theorem states. -/
import Derived.Test.YtaeeickboakmgaaXx0
import Derived.Test.YtaeeickboakmgaaXx4
import Derived.Test.YtaeeickboakmgaaWAll
namespace Go.Proofs.Ytaeeickboakmgaa.X
open Go.RowKit Go.Proofs.YtaeeickboakmgaaW.PrintWords Go.Proofs.YtaeeickboakmgaaW.PrintLast Go.Proofs.YtaeeickboakmgaaW.PrintStep Go.Proofs.YtaeeickboakmgaaW.PrintMore
attribute [local go_sem] max2_int min2_int max_two min_two max_three min_three max_four min_four   -- for this text's walks alone
set_option linter.unusedVariables false
set_option linter.unusedSimpArgs false

/-! ### impl_Plan_count: function 78 -/
def impl_Plan_count.f (a0_0 : Int) (a0_1 : Int) (l0_2 : List Int) (l0_3 : List Int) : Option (Int) := if a0_1 = 0 then (none) else (some (wrap64 (Int.tdiv (wrap64 ((wrap64 (a0_0 + a0_1)) - 1)) a0_1)))
set_option maxHeartbeats 8000000 in
set_option maxRecDepth 100000 in
theorem impl_Plan_count.calls (a0_0 : Int) (a0_1 : Int) (A0_2 : Option Addr) (c0_2 : Nat) (l0_2 : List Int) (A0_3 : Option Addr) (c0_3 : Nat) (l0_3 : List Int) (r : Int) (w : World) (hr0_2 : Kd.C (Kd.int .i64) w A0_2 l0_2.length l0_2) (hc0_2 : l0_2.length ≤ c0_2) (hr0_3 : Kd.C (Kd.int .i64) w A0_3 l0_3.length l0_3) (hc0_3 : l0_3.length ≤ c0_3) (h : impl_Plan_count.f a0_0 a0_1 l0_2 l0_3 = some r) :
 Calls Try.prog 78 #[.agg #[.int .i64 a0_0, .int .i64 a0_1, .slice A0_2 l0_2.length c0_2, .slice A0_3 l0_3.length c0_3]] w fun e w' => e = .returned (.int .i64 r) ∧ Below w.heap.size w w' := by
 have hu46 := Try.underlying46
 have HR0_2 := Aside0.mk hr0_2
 have HC0_2 := Aside0.mk hc0_2
 clear hr0_2 hc0_2
 have HR0_3 := Aside0.mk hr0_3
 have HC0_3 := Aside0.mk hc0_3
 clear hr0_3 hc0_3
 have HB := Aside0.mk (Below.refl w.heap.size w)
 have H : (if a0_1 = 0 then (none) else (some (wrap64 (Int.tdiv (wrap64 ((wrap64 (a0_0 + a0_1)) - 1)) a0_1)))) = some r := h
 clear h
 by_cases c2 : a0_1 = 0
 ·rw [if_pos c2] at H
  exact absurd H (by simp)
 ·rw [if_neg c2] at H
  have c2b0 : (a0_1 == 0) = false := beq_eq_false_iff_ne.mpr c2
  have c2b1 : (a0_1 != 0) = true := bne_iff_ne.mpr c2
  obtain rfl := Option.some.inj H
  go_enter Try.func78, Try.ntmps78
  go_wp2_with (first | ((with_reducible refine gate_dst (N := 1) rfl ?_); refine box_event ?hg (N := 1) ?hd (cs := #[.int .i64 a0_0, .int .i64 a0_1, .slice A0_2 l0_2.length c0_2, .slice A0_3 l0_3.length c0_3]) (t := 46) ?hr ?_; (case hd => rfl); (case hg => rfl); (case hr => first | (go_simp; done) | (go_simp; rfl)); intro gb385 hg w3 hbox hb; have n0_ := Aside0.mk (below_step (gB HB.out) hb); have n1_ := Aside0.mk (hbox); have n2_ := Aside0.mk ((by rw [hg]; exact (below_size (gB HB.out)) : w.heap.size ≤ gb385)); have n3_ := n2_; clear HB; have HB := n0_; have BK385 := n1_; have GW385 := n2_; have GE385 := n3_; clear n0_ n1_ n2_ n3_; clear hb hbox hg; have hcz4_0 := cz_ BK385.out 0 rfl; have hcz4_1 := cz_ BK385.out 1 rfl; have hcz4_2 := cz_ BK385.out 2 rfl; have hcz4_3 := cz_ BK385.out 3 rfl; have hfz4_0 := blk_frozen BK385.out 0; have hfz4_1 := blk_frozen BK385.out 1; have hfz4_2 := blk_frozen BK385.out 2; have hfz4_3 := blk_frozen BK385.out 3))
  go_ret
  exact ⟨by first | rfl | (simp [errW_none, errW_some] <;> rfl) | (simp [*, errW_none, errW_some] <;> rfl), by repeat (first | (with_reducible first | exact HB.out | apply below_alloc | apply pw_below_drewN | apply below_drew1 | refine below_set ?_ GE385.out) | exact HB.out)⟩

/-! ### impl_PlanOk: function 76 -/
mutual
def impl_PlanOk.j0 : Nat → Bool → Int → Int → List Int → List Int → Option (Bool)
 | 0, _, _, _, _, _ => none
 | k + 1, x19, x387000, x387001, x387002, x387003 => if x19 = true then (some false) else ((impl_within.f (x387002.length : Int) 1 3).bind fun t390 => (if t390 = true then (if (x387003.length : Int) = (x387002.length : Int) then (if 0 ≤ (wrap64 ((x387002.length : Int) - 1)) then (if (wrap64 ((x387002.length : Int) - 1)) < (x387002.length : Int) then ((impl_Plan_count.f x387000 x387001 x387002 x387003).bind fun t392 => (impl_PlanOk.j1 k ((rd x387002 (wrap64 ((x387002.length : Int) - 1))) != t392) x387000 x387001 x387002 x387003)) else (none)) else (none)) else (impl_PlanOk.j1 k true x387000 x387001 x387002 x387003)) else (impl_PlanOk.j1 k true x387000 x387001 x387002 x387003)))
def impl_PlanOk.j1 : Nat → Bool → Int → Int → List Int → List Int → Option (Bool)
 | 0, _, _, _, _, _ => none
 | k + 1, x46, x387000, x387001, x387002, x387003 => if x46 = true then (some false) else (impl_PlanOk.l0 k x387002 (x387002.length : Int) 0 x387000 x387001 x387002 x387003)
def impl_PlanOk.l0 : Nat → List Int → Int → Int → Int → Int → List Int → List Int → Option (Bool)
 | 0, _, _, _, _, _, _, _ => none
 | k + 1, x48, x49, x50, x387000, x387001, x387002, x387003 => if x50 < x49 then (if 0 ≤ x50 then (if x50 < (x48.length : Int) then ((impl_Plan_count.f x387000 x387001 x387002 x387003).bind fun t394 => ((impl_within.f (rd x48 x50) 1 t394).bind fun t395 => (if t395 = true then (if x50 > 0 then (if 0 ≤ (wrap64 (x50 - 1)) then (if (wrap64 (x50 - 1)) < (x387002.length : Int) then (if (rd x387002 (wrap64 (x50 - 1))) ≥ (rd x48 x50) then (some false) else (if x50 < (x387003.length : Int) then ((impl_within.f (rd x387003 x50) 1 99).bind fun t398 => (if t398 = true then (impl_PlanOk.l0 k x48 x49 (wrap64 (x50 + 1)) x387000 x387001 x387002 x387003) else (some false))) else (none))) else (none)) else (none)) else (if x50 < (x387003.length : Int) then ((impl_within.f (rd x387003 x50) 1 99).bind fun t400 => (if t400 = true then (impl_PlanOk.l0 k x48 x49 (wrap64 (x50 + 1)) x387000 x387001 x387002 x387003) else (some false))) else (none))) else (some false)))) else (none)) else (none)) else (some true)
end
def impl_PlanOk.f (k : Nat) (a0_0 : Int) (a0_1 : Int) (l0_2 : List Int) (l0_3 : List Int) : Option (Bool) := (impl_within.f a0_0 1 300).bind fun t387 => (if t387 = true then ((impl_within.f a0_1 1 16).bind fun t388 => (if t388 = true then ((impl_Plan_count.f a0_0 a0_1 l0_2 l0_3).bind fun t389 => (impl_PlanOk.j0 k (decide (t389 > 24)) a0_0 a0_1 l0_2 l0_3)) else (impl_PlanOk.j0 k true a0_0 a0_1 l0_2 l0_3))) else (impl_PlanOk.j0 k true a0_0 a0_1 l0_2 l0_3))
theorem impl_PlanOk.mono_l : ∀ k, (∀ y0 y1 y2 y3 y4, LeO (impl_PlanOk.j0 k y0 y1 y2 y3 y4) (impl_PlanOk.j0 (k + 1) y0 y1 y2 y3 y4)) ∧ (∀ y0 y1 y2 y3 y4, LeO (impl_PlanOk.j1 k y0 y1 y2 y3 y4) (impl_PlanOk.j1 (k + 1) y0 y1 y2 y3 y4)) ∧ (∀ y0 y1 y2 y3 y4 y5 y6, LeO (impl_PlanOk.l0 k y0 y1 y2 y3 y4 y5 y6) (impl_PlanOk.l0 (k + 1) y0 y1 y2 y3 y4 y5 y6))
 | 0 => ⟨fun _ _ _ _ _ r h => by simp [impl_PlanOk.j0] at h, fun _ _ _ _ _ r h => by simp [impl_PlanOk.j1] at h, fun _ _ _ _ _ _ _ r h => by simp [impl_PlanOk.l0] at h⟩
 | k + 1 => by
  obtain ⟨ih0, ih1, ih2⟩ := impl_PlanOk.mono_l k
  refine ⟨?_, ?_, ?_⟩
  ·intro y0 y1 y2 y3 y4
   unfold impl_PlanOk.j0
   repeat' first
   | (with_reducible exact ih0 _ _ _ _ _)
   | (with_reducible exact ih1 _ _ _ _ _)
   | (with_reducible exact ih2 _ _ _ _ _ _ _)
   | (with_reducible exact LeO.refl _)
   | (with_reducible exact LeO.none _)
   | (with_reducible refine LeO.ite ?_ ?_)
   | (with_reducible refine LeO.bind ?_ (fun _ => ?_))
   | exact ih0 _ _ _ _ _
   | exact ih1 _ _ _ _ _
   | exact ih2 _ _ _ _ _ _ _
   | exact LeO.none _
   | refine LeO.ite ?_ ?_
   | refine LeO.bind ?_ (fun _ => ?_)
  ·intro y0 y1 y2 y3 y4
   unfold impl_PlanOk.j1
   repeat' first
   | (with_reducible exact ih0 _ _ _ _ _)
   | (with_reducible exact ih1 _ _ _ _ _)
   | (with_reducible exact ih2 _ _ _ _ _ _ _)
   | (with_reducible exact LeO.refl _)
   | (with_reducible exact LeO.none _)
   | (with_reducible refine LeO.ite ?_ ?_)
   | (with_reducible refine LeO.bind ?_ (fun _ => ?_))
   | exact ih0 _ _ _ _ _
   | exact ih1 _ _ _ _ _
   | exact ih2 _ _ _ _ _ _ _
   | exact LeO.none _
   | refine LeO.ite ?_ ?_
   | refine LeO.bind ?_ (fun _ => ?_)
  ·intro y0 y1 y2 y3 y4 y5 y6
   unfold impl_PlanOk.l0
   repeat' first
   | (with_reducible exact ih0 _ _ _ _ _)
   | (with_reducible exact ih1 _ _ _ _ _)
   | (with_reducible exact ih2 _ _ _ _ _ _ _)
   | (with_reducible exact LeO.refl _)
   | (with_reducible exact LeO.none _)
   | (with_reducible refine LeO.ite ?_ ?_)
   | (with_reducible refine LeO.bind ?_ (fun _ => ?_))
   | exact ih0 _ _ _ _ _
   | exact ih1 _ _ _ _ _
   | exact ih2 _ _ _ _ _ _ _
   | exact LeO.none _
   | refine LeO.ite ?_ ?_
   | refine LeO.bind ?_ (fun _ => ?_)
theorem impl_PlanOk.mono : ∀ a0 a1 a2 a3 k, LeO (impl_PlanOk.f k a0 a1 a2 a3) (impl_PlanOk.f (k + 1) a0 a1 a2 a3) := by
 intro a0 a1 a2 a3 k
 obtain ⟨ih0, ih1, ih2⟩ := impl_PlanOk.mono_l k
 unfold impl_PlanOk.f
 repeat' first
  | (with_reducible exact ih0 _ _ _ _ _)
  | (with_reducible exact ih1 _ _ _ _ _)
  | (with_reducible exact ih2 _ _ _ _ _ _ _)
  | (with_reducible exact LeO.refl _)
  | (with_reducible exact LeO.none _)
  | (with_reducible refine LeO.ite ?_ ?_)
  | (with_reducible refine LeO.bind ?_ (fun _ => ?_))
  | exact ih0 _ _ _ _ _
  | exact ih1 _ _ _ _ _
  | exact ih2 _ _ _ _ _ _ _
  | exact LeO.none _
  | refine LeO.ite ?_ ?_
  | refine LeO.bind ?_ (fun _ => ?_)
def impl_PlanOk.T3 : Bool × List (List Nat × List Nat) := (true, [([], []), ([0], [0]), ([1], [1]), ([2], [2]), ([3], [3]), ([4, 3], [4]), ([5], [5]), ([6, 5], [5, 6]), ([7, 5], [5, 7]), ([5], [5]), ([9, 5], [5, 9]), ([10, 5], [5, 10]), ([8, 11, 5], [5, 8, 11]), ([5, 12], [5, 12]), ([13, 5], [13]), ([14], [14]), ([15, 14], [14, 15]), ([14], [14]), ([17, 14], [14, 17]), ([18, 14], [14, 18]), ([19, 14], [14, 19]), ([16, 20, 14], [14, 16, 20]), ([21, 14], [14, 21]), ([14], [14]), ([23, 14, 14], [14, 23]), ([22, 24, 14], [14, 22, 24]), ([14, 25], [14, 25])])
def impl_PlanOk.B3 : List Nat := [0, 1, 3, 7, 15, 31, 63, 127, 255, 63, 575, 1599, 4095, 8191, 16383, 32767, 65535, 32767, 163839, 425983, 950271, 2097151, 4194303, 32767, 8421375, 33554431, 67108863]
theorem impl_PlanOk.tab3 : rtab .any (opsOf Try.f76 3) = impl_PlanOk.T3 := by kernel_rfl
theorem impl_PlanOk.bits3 : waitsOk impl_PlanOk.T3.2 impl_PlanOk.B3 = true := by kernel_rfl
set_option maxHeartbeats 8000000 in
set_option maxRecDepth 100000 in
theorem impl_PlanOk.calls (k : Nat) (a0_0 : Int) (a0_1 : Int) (A0_2 : Option Addr) (c0_2 : Nat) (l0_2 : List Int) (A0_3 : Option Addr) (c0_3 : Nat) (l0_3 : List Int) (r : Bool) (w : World) (hr0_2 : Kd.C (Kd.int .i64) w A0_2 l0_2.length l0_2) (hc0_2 : l0_2.length ≤ c0_2) (hr0_3 : Kd.C (Kd.int .i64) w A0_3 l0_3.length l0_3) (hc0_3 : l0_3.length ≤ c0_3) (h : impl_PlanOk.f k a0_0 a0_1 l0_2 l0_3 = some r) :
 Calls Try.prog 76 #[.agg #[.int .i64 a0_0, .int .i64 a0_1, .slice A0_2 l0_2.length c0_2, .slice A0_3 l0_3.length c0_3]] w fun e w' => e = .returned (.bool r) ∧ Below w.heap.size w w' := by
 have hu46 := Try.underlying46
 have HR0_2 := Aside0.mk hr0_2
 have HC0_2 := Aside0.mk hc0_2
 clear hr0_2 hc0_2
 have HR0_3 := Aside0.mk hr0_3
 have HC0_3 := Aside0.mk hc0_3
 clear hr0_3 hc0_3
 have HB := Aside0.mk (Below.refl w.heap.size w)
 have H : ((impl_within.f a0_0 1 300).bind fun t387 => (if t387 = true then ((impl_within.f a0_1 1 16).bind fun t388 => (if t388 = true then ((impl_Plan_count.f a0_0 a0_1 l0_2 l0_3).bind fun t389 => (impl_PlanOk.j0 k (decide (t389 > 24)) a0_0 a0_1 l0_2 l0_3)) else (impl_PlanOk.j0 k true a0_0 a0_1 l0_2 l0_3))) else (impl_PlanOk.j0 k true a0_0 a0_1 l0_2 l0_3))) = some r := h
 clear h
 have HC2 := Aside0.mk H
 clear H
 go_enter Try.func76, Try.ntmps76
 go_upto_region 1 with (first | ((with_reducible refine gate_dst (N := 1) rfl ?_); (try (refine gate_guard (by rfl) ?_; dsimp only)); refine box_event ?hg (N := 1) ?hd (cs := #[.int .i64 a0_0, .int .i64 a0_1, .slice A0_2 l0_2.length c0_2, .slice A0_3 l0_3.length c0_3]) (t := 46) ?hr ?_; (case hd => rfl); (case hg => rfl); (case hr => first | (go_simp; done) | (go_simp; rfl)); intro gb386 hg w3 hbox hb; have n0_ := Aside0.mk (below_step (gB HB.out) hb); have n1_ := Aside0.mk (hbox); have n2_ := Aside0.mk ((by rw [hg]; exact (below_size (gB HB.out)) : w.heap.size ≤ gb386)); have n3_ := n2_; clear HB; have HB := n0_; have BK386 := n1_; have GW386 := n2_; have GE386 := n3_; clear n0_ n1_ n2_ n3_; clear hb hbox hg))
 (try simp only [Act.put, eA_, e0_, eS_])
 go_cut [19] (fun v19 wc => ∃ (kq : Nat) (x19_1 : Bool), v19 = .bool x19_1 ∧ Aside0 (impl_PlanOk.j0 kq x19_1 a0_0 a0_1 l0_2 l0_3 = some r) ∧ Aside0 (kq ≤ k) ∧ Aside0 (wc.heap[gb386]? = some (.cells #[.int .i64 a0_0, .int .i64 a0_1, (.slice A0_2 l0_2.length c0_2), (.slice A0_3 l0_3.length c0_3)] 46 (0, 0))) ∧ Aside0 (Below w.heap.size w wc))
 case first =>
  have H := HC2.out
  clear HC2
  replace H := bI_ H
  obtain ⟨t387, A40, H⟩ := H
  replace H : (if t387 = true then ((impl_within.f a0_1 1 16).bind fun t388 => (if t388 = true then ((impl_Plan_count.f a0_0 a0_1 l0_2 l0_3).bind fun t389 => (impl_PlanOk.j0 k (decide (t389 > 24)) a0_0 a0_1 l0_2 l0_3)) else (impl_PlanOk.j0 k true a0_0 a0_1 l0_2 l0_3))) else (impl_PlanOk.j0 k true a0_0 a0_1 l0_2 l0_3)) = some r := H
  have A4 := Aside0.mk A40
  clear A40
  by_cases c5 : t387 = true
  ·subst c5
   have H1 : ((impl_within.f a0_1 1 16).bind fun t388 => (if t388 = true then ((impl_Plan_count.f a0_0 a0_1 l0_2 l0_3).bind fun t389 => (impl_PlanOk.j0 k (decide (t389 > 24)) a0_0 a0_1 l0_2 l0_3)) else (impl_PlanOk.j0 k true a0_0 a0_1 l0_2 l0_3))) = some r := by rw [if_pos rfl] at H; exact H
   clear H
   have H := H1
   clear H1
   replace H := bI_ H
   obtain ⟨t388, A60, H⟩ := H
   replace H : (if t388 = true then ((impl_Plan_count.f a0_0 a0_1 l0_2 l0_3).bind fun t389 => (impl_PlanOk.j0 k (decide (t389 > 24)) a0_0 a0_1 l0_2 l0_3)) else (impl_PlanOk.j0 k true a0_0 a0_1 l0_2 l0_3)) = some r := H
   have A6 := Aside0.mk A60
   clear A60
   by_cases c7 : t388 = true
   ·subst c7
    have H1 : ((impl_Plan_count.f a0_0 a0_1 l0_2 l0_3).bind fun t389 => (impl_PlanOk.j0 k (decide (t389 > 24)) a0_0 a0_1 l0_2 l0_3)) = some r := by rw [if_pos rfl] at H; exact H
    clear H
    have H := H1
    clear H1
    replace H := bI_ H
    obtain ⟨t389, A80, H⟩ := H
    replace H : (impl_PlanOk.j0 k (decide (t389 > 24)) a0_0 a0_1 l0_2 l0_3) = some r := H
    have A8 := Aside0.mk A80
    clear A80
    have H' := Aside0.mk H
    clear H
    have hcz9_0 := cz_ BK386.out 0 rfl
    have hcz9_1 := cz_ BK386.out 1 rfl
    have hcz9_2 := cz_ BK386.out 2 rfl
    have hcz9_3 := cz_ BK386.out 3 rfl
    have hfz9_0 := blk_frozen BK386.out 0
    have hfz9_1 := blk_frozen BK386.out 1
    have hfz9_2 := blk_frozen BK386.out 2
    have hfz9_3 := blk_frozen BK386.out 3
    go_wp2_with (first | ((with_reducible refine gate_callee (f := 66) rfl ?_); refine goesL_ (some 7) rfl rfl Try.func66 (by kernel_rfl) rfl #[.int .i64 a0_0, .int .i64 1, .int .i64 300] rfl (by (try simp only [List.map_toArray, List.map_cons, List.map_nil]); first | done | rfl | (simp only [List.length_drop, List.length_take]; rfl)) ?_; (with_reducible refine (impl_within.calls a0_0 1 300 true _ A4.out).mono ?_); rintro e w' ⟨rfl, ⟨nd, rfl⟩⟩; refine ⟨_, rfl, ?_⟩) | (go_at_call 66; (with_reducible refine (impl_within.calls a0_1 1 16 true _ A6.out).mono ?_); rintro e w' ⟨rfl, ⟨nd, rfl⟩⟩) | (go_at_call 78; (with_reducible refine (impl_Plan_count.calls a0_0 a0_1 _ _ l0_2 _ _ l0_3 t389 _ ?side1 ?side2 ?side3 ?side4 A8.out).mono ?_); (case side1 => repeat (first | exact (Kd.C_below HR0_2.out (gB HB.out)) | (with_reducible refine Kd.C_alloc ?_ _) | (with_reducible refine Kd.C_drewN ?_ _) | (with_reducible refine Kd.C_drew ?_))); (case side2 => exact HC0_2.out); (case side3 => repeat (first | exact (Kd.C_below HR0_3.out (gB HB.out)) | (with_reducible refine Kd.C_alloc ?_ _) | (with_reducible refine Kd.C_drewN ?_ _) | (with_reducible refine Kd.C_drew ?_))); (case side4 => exact HC0_3.out); rintro e w10 ⟨rfl, hb⟩; have n0_ := Aside0.mk (blk_below (gK BK386.out) hb); have n1_ := Aside0.mk (below_step (gB HB.out) hb); clear BK386; clear HB; have BK386 := n0_; have HB := n1_; clear n0_ n1_; (try clear hb); (try clear hb2); (try clear hk); (try clear hi)))
    go_meet
    case rel => exact ⟨_, (decide (t389 > 24)), (by first | rfl | (simp; done) | (simp [*]; done) | (simp [wrap64]; done)), H', ⟨by first | omega | exact Nat.le_refl _⟩, ⟨by (with_reducible repeat (first | refine blk_drewN ?_ _ | refine blk_drew ?_ | refine blk_alloc ?_ _)); exact BK386.out⟩, ⟨by repeat (first | (with_reducible first | exact HB.out | apply below_alloc | apply pw_below_drewN | apply below_drew1 | refine below_set ?_ GE386.out) | exact HB.out)⟩⟩
   ·replace c7 := Bool.eq_false_iff.mpr c7
    subst c7
    have H1 : (impl_PlanOk.j0 k true a0_0 a0_1 l0_2 l0_3) = some r := by rw [if_neg (show ¬ (false = true) by decide)] at H; exact H
    clear H
    have H := H1
    clear H1
    have H' := Aside0.mk H
    clear H
    have hcz11_0 := cz_ BK386.out 0 rfl
    have hcz11_1 := cz_ BK386.out 1 rfl
    have hcz11_2 := cz_ BK386.out 2 rfl
    have hcz11_3 := cz_ BK386.out 3 rfl
    have hfz11_0 := blk_frozen BK386.out 0
    have hfz11_1 := blk_frozen BK386.out 1
    have hfz11_2 := blk_frozen BK386.out 2
    have hfz11_3 := blk_frozen BK386.out 3
    go_wp2_with (first | ((with_reducible refine gate_callee (f := 66) rfl ?_); refine goesL_ (some 7) rfl rfl Try.func66 (by kernel_rfl) rfl #[.int .i64 a0_0, .int .i64 1, .int .i64 300] rfl (by (try simp only [List.map_toArray, List.map_cons, List.map_nil]); first | done | rfl | (simp only [List.length_drop, List.length_take]; rfl)) ?_; (with_reducible refine (impl_within.calls a0_0 1 300 true _ A4.out).mono ?_); rintro e w' ⟨rfl, ⟨nd, rfl⟩⟩; refine ⟨_, rfl, ?_⟩) | (go_at_call 66; (with_reducible refine (impl_within.calls a0_1 1 16 false _ A6.out).mono ?_); rintro e w' ⟨rfl, ⟨nd, rfl⟩⟩))
    go_meet
    case rel => exact ⟨_, (true), (by first | rfl | (simp; done) | (simp [*]; done) | (simp [wrap64]; done)), H', ⟨by first | omega | exact Nat.le_refl _⟩, ⟨by (with_reducible repeat (first | refine blk_drewN ?_ _ | refine blk_drew ?_ | refine blk_alloc ?_ _)); exact BK386.out⟩, ⟨by repeat (first | (with_reducible first | exact HB.out | apply below_alloc | apply pw_below_drewN | apply below_drew1 | refine below_set ?_ GE386.out) | exact HB.out)⟩⟩
  ·replace c5 := Bool.eq_false_iff.mpr c5
   subst c5
   have H1 : (impl_PlanOk.j0 k true a0_0 a0_1 l0_2 l0_3) = some r := by rw [if_neg (show ¬ (false = true) by decide)] at H; exact H
   clear H
   have H := H1
   clear H1
   have H' := Aside0.mk H
   clear H
   have hcz12_0 := cz_ BK386.out 0 rfl
   have hcz12_1 := cz_ BK386.out 1 rfl
   have hcz12_2 := cz_ BK386.out 2 rfl
   have hcz12_3 := cz_ BK386.out 3 rfl
   have hfz12_0 := blk_frozen BK386.out 0
   have hfz12_1 := blk_frozen BK386.out 1
   have hfz12_2 := blk_frozen BK386.out 2
   have hfz12_3 := blk_frozen BK386.out 3
   go_wp2_with (first | ((with_reducible refine gate_callee (f := 66) rfl ?_); refine goesL_ (some 7) rfl rfl Try.func66 (by kernel_rfl) rfl #[.int .i64 a0_0, .int .i64 1, .int .i64 300] rfl (by (try simp only [List.map_toArray, List.map_cons, List.map_nil]); first | done | rfl | (simp only [List.length_drop, List.length_take]; rfl)) ?_; (with_reducible refine (impl_within.calls a0_0 1 300 false _ A4.out).mono ?_); rintro e w' ⟨rfl, ⟨nd, rfl⟩⟩; refine ⟨_, rfl, ?_⟩))
   go_meet
   case rel => exact ⟨_, (true), (by first | rfl | (simp; done) | (simp [*]; done) | (simp [wrap64]; done)), H', ⟨by first | omega | exact Nat.le_refl _⟩, ⟨by (with_reducible repeat (first | refine blk_drewN ?_ _ | refine blk_drew ?_ | refine blk_alloc ?_ _)); exact BK386.out⟩, ⟨by repeat (first | (with_reducible first | exact HB.out | apply below_alloc | apply pw_below_drewN | apply below_drew1 | refine below_set ?_ GE386.out) | exact HB.out)⟩⟩
 case rest =>
  clear HC2
  try clear p2
  try clear c5
  try clear c6
  try clear c7
  try clear hcz11_0
  try clear hcz11_1
  try clear hcz11_2
  try clear hcz11_3
  try clear hcz12_0
  try clear hcz12_1
  try clear hcz12_2
  try clear hcz12_3
  try clear hcz9_0
  try clear hcz9_1
  try clear hcz9_2
  try clear hcz9_3
  try clear hfz11_0
  try clear hfz11_1
  try clear hfz11_2
  try clear hfz11_3
  try clear hfz12_0
  try clear hfz12_1
  try clear hfz12_2
  try clear hfz12_3
  try clear hfz9_0
  try clear hfz9_1
  try clear hfz9_2
  try clear hfz9_3
  obtain ⟨kq, x19_1, rfl, HA, HJ1, BK386, HB⟩ := hcut
  cases kq with
  | zero => exact absurd HA.out (by simp [impl_PlanOk.j0])
  | succ kj1 =>
   have H := HA.out
   clear HA
   simp only [impl_PlanOk.j0] at H
   by_cases c13 : x19_1 = true
   ·subst c13
    have H1 : (some false) = some r := by rw [if_pos rfl] at H; exact H
    clear H
    have H := H1
    clear H1
    obtain rfl := Option.some.inj H
    go_wp2
    go_ret
    exact ⟨by first | rfl | (simp [errW_none, errW_some] <;> rfl) | (simp [*, errW_none, errW_some] <;> rfl), by repeat (first | (with_reducible first | exact HB.out | apply below_alloc | apply pw_below_drewN | apply below_drew1 | refine below_set ?_ GE386.out) | exact HB.out)⟩
   ·replace c13 := Bool.eq_false_iff.mpr c13
    subst c13
    have H1 : ((impl_within.f (l0_2.length : Int) 1 3).bind fun t390 => (if t390 = true then (if (l0_3.length : Int) = (l0_2.length : Int) then (if 0 ≤ (wrap64 ((l0_2.length : Int) - 1)) then (if (wrap64 ((l0_2.length : Int) - 1)) < (l0_2.length : Int) then ((impl_Plan_count.f a0_0 a0_1 l0_2 l0_3).bind fun t392 => (impl_PlanOk.j1 kj1 ((rd l0_2 (wrap64 ((l0_2.length : Int) - 1))) != t392) a0_0 a0_1 l0_2 l0_3)) else (none)) else (none)) else (impl_PlanOk.j1 kj1 true a0_0 a0_1 l0_2 l0_3)) else (impl_PlanOk.j1 kj1 true a0_0 a0_1 l0_2 l0_3))) = some r := by rw [if_neg (show ¬ (false = true) by decide)] at H; exact H
    clear H
    have H := H1
    clear H1
    have HC14 := Aside0.mk H
    clear H
    go_upto_region 3 with (fail)
    go_cut [46] (fun v46 wc => ∃ (kq : Nat) (x46_13 : Bool), v46 = .bool x46_13 ∧ Aside0 (impl_PlanOk.j1 kq x46_13 a0_0 a0_1 l0_2 l0_3 = some r) ∧ Aside0 (kq ≤ kj1) ∧ Aside0 (wc.heap[gb386]? = some (.cells #[.int .i64 a0_0, .int .i64 a0_1, (.slice A0_2 l0_2.length c0_2), (.slice A0_3 l0_3.length c0_3)] 46 (0, 0))) ∧ Aside0 (Below w.heap.size w wc))
    case first =>
     have H := HC14.out
     clear HC14
     replace H := bI_ H
     obtain ⟨t390, A150, H⟩ := H
     replace H : (if t390 = true then (if (l0_3.length : Int) = (l0_2.length : Int) then (if 0 ≤ (wrap64 ((l0_2.length : Int) - 1)) then (if (wrap64 ((l0_2.length : Int) - 1)) < (l0_2.length : Int) then ((impl_Plan_count.f a0_0 a0_1 l0_2 l0_3).bind fun t392 => (impl_PlanOk.j1 kj1 ((rd l0_2 (wrap64 ((l0_2.length : Int) - 1))) != t392) a0_0 a0_1 l0_2 l0_3)) else (none)) else (none)) else (impl_PlanOk.j1 kj1 true a0_0 a0_1 l0_2 l0_3)) else (impl_PlanOk.j1 kj1 true a0_0 a0_1 l0_2 l0_3)) = some r := H
     have A15 := Aside0.mk A150
     clear A150
     by_cases c16 : t390 = true
     ·subst c16
      have H1 : (if (l0_3.length : Int) = (l0_2.length : Int) then (if 0 ≤ (wrap64 ((l0_2.length : Int) - 1)) then (if (wrap64 ((l0_2.length : Int) - 1)) < (l0_2.length : Int) then ((impl_Plan_count.f a0_0 a0_1 l0_2 l0_3).bind fun t392 => (impl_PlanOk.j1 kj1 ((rd l0_2 (wrap64 ((l0_2.length : Int) - 1))) != t392) a0_0 a0_1 l0_2 l0_3)) else (none)) else (none)) else (impl_PlanOk.j1 kj1 true a0_0 a0_1 l0_2 l0_3)) = some r := by rw [if_pos rfl] at H; exact H
      clear H
      have H := H1
      clear H1
      by_cases c17 : (l0_3.length : Int) = (l0_2.length : Int)
      ·rw [if_pos c17] at H
       have c17b0 : ((l0_3.length : Int) == (l0_2.length : Int)) = true := beq_iff_eq.mpr c17
       have c17b1 : ((l0_3.length : Int) != (l0_2.length : Int)) = false := bne_eq_false_iff_eq.mpr c17
       have c17b2 : (l0_3.length == l0_2.length) = true := by first | simpa using c17 | (simp at c17 ⊢; omega)
       clear c17
       (first | rw [c17b0] | (simp only [i64_w, i32_w]; rw [c17b0]) | skip)
       obtain ⟨ji18, hji18⟩ : ∃ j_ : Int, (wrap64 ((l0_2.length : Int) - 1)) = j_ := ⟨_, rfl⟩
       replace H : (if 0 ≤ (ji18) then (if (ji18) < (l0_2.length : Int) then ((impl_Plan_count.f a0_0 a0_1 l0_2 l0_3).bind fun t392 => (impl_PlanOk.j1 kj1 ((rd l0_2 (ji18)) != t392) a0_0 a0_1 l0_2 l0_3)) else (none)) else (none)) = some r := by first | (rw [hji18] at H; exact H) | (simp only [hji18] at H ⊢; exact H)
       (try rw [hji18] at A15)
       have hji18w : (IntKind.i64.wrap ((l0_2.length : Int) - 1)) = ji18 := (i64_w _).trans hji18
       by_cases c19 : 0 ≤ (ji18)
       ·rw [if_pos c19] at H
        have c19b0 : decide (0 ≤ (ji18)) = true := decide_eq_true c19
        clear c19
        by_cases c20 : (ji18) < (l0_2.length : Int)
        ·rw [if_pos c20] at H
         have c20b0 : decide ((ji18) < (l0_2.length : Int)) = true := decide_eq_true c20
         clear c20
         replace H := bI_ H
         obtain ⟨t392, A210, H⟩ := H
         replace H : (impl_PlanOk.j1 kj1 ((rd l0_2 (ji18)) != t392) a0_0 a0_1 l0_2 l0_3) = some r := H
         have A21 := Aside0.mk A210
         clear A210
         have H' := Aside0.mk H
         clear H
         try go_wp2
         have n0_ := Aside0.mk (blk_drew BK386.out)
         have n1_ := Aside0.mk (below_drew1 HB.out)
         clear BK386
         clear HB
         have BK386 := n0_
         have HB := n1_
         clear n0_ n1_
         have p391 : 0 ≤ ((ji18) : Int) := of_decide_eq_true (by first | (with_reducible assumption) | assumption)
         have q391 : (ji18) < (l0_2.length : Int) := of_decide_eq_true (by first | (with_reducible assumption) | assumption)
         obtain ⟨ad391, e391, hx391_0⟩ := Kd.at_int HR0_2.out (ji18) p391 q391
         have hw391_0 := hx391_0
         cases e391
         replace hx391_0 := (HB.out.cell (World.block_lt_of_cell? w _ hx391_0)).trans hx391_0
         replace p391 := eq_true p391
         replace q391 := eq_true q391
         refine start_ (n := 27) (S := fun w' => w'.cell? ⟨gb386, 0, none⟩ = some (.int .i64 a0_0) ∧ w'.cell? ⟨gb386, 1, none⟩ = some (.int .i64 a0_1) ∧ w'.cell? ⟨gb386, 2, none⟩ = some (.slice (some ad391) l0_2.length c0_2) ∧ w'.cell? ⟨gb386, 3, none⟩ = some (.slice A0_3 l0_3.length c0_3) ∧ w'.cell? (ad391.add ((ji18)).toNat) = some (.int .i64 (rd l0_2 (ji18)))) (ds := []) (.replicate 27 false) (by kernel_rfl) rfl rfl ⟨cz_ BK386.out 0 rfl, cz_ BK386.out 1 rfl, cz_ BK386.out 2 rfl, cz_ BK386.out 3 rfl, ((HB.out.cell (World.block_lt_of_cell? w _ hw391_0)).trans hw391_0)⟩ (fun hHeld => ?_); refine with_tabW impl_PlanOk.tab3 impl_PlanOk.bits3 (fun HT_ HW_ => ?_)
         generalize wc.drew = w22 at BK386 HB hx391_0 hHeld ⊢
         refine pu_ 0 (some 20) (bv 27 1) rfl rfl (any_of HT_.out (by kernel_rfl)) (fun _ _ _ h => h) (by rfl) (fun w' => by go_simp; with_reducible rfl) (by simp only [Act.put, eA_, e0_, eS_, i64_w, i32_w]; rfl) ?_
         refine tk_ 1 (some 21) (bv 27 3) rfl rfl (take_ofW HT_.out HW_.out (by kernel_rfl)) (fun _ _ _ h => h) (by rfl) hHeld (fun w' ⟨s0, s1, s2, s3, s4⟩ => by go_simp; with_reducible rfl) (by simp only [Act.put, eA_, e0_, eS_, i64_w, i32_w]; rfl) ?_
         refine pu_ 2 (some 22) (bv 27 7) rfl rfl (any_of HT_.out (by kernel_rfl)) (fun _ _ _ h => h) (by rfl) (fun w' => by go_simp; with_reducible rfl) (by simp only [Act.put, eA_, e0_, eS_, i64_w, i32_w]; rfl) ?_
         refine one_ (i := 3) (N := some 23) (bv 27 15) rfl rfl (one_of HT_.out (by kernel_rfl)) (by decide) (fun K hK => ?_)
         refine goes_ Try.func66 (by kernel_rfl) rfl #[.int .i64 (l0_2.length : Int), .int .i64 1, .int .i64 3] (by rfl) rfl rfl (by (try simp only [List.map_toArray, List.map_cons, List.map_nil]); first | done | rfl | (simp only [List.length_drop, List.length_take]; rfl)) ?_
         with_reducible refine (impl_within.calls (l0_2.length : Int) 1 3 true _ A15.out).mono ?_
         rintro e w' ⟨rfl, ⟨nd, rfl⟩⟩
         refine ⟨_, rfl, ?_⟩
         refine hK.out _ _ ⟨cz_ BK386.out 0 rfl, cz_ BK386.out 1 rfl, cz_ BK386.out 2 rfl, cz_ BK386.out 3 rfl, ((HB.out.cell (World.block_lt_of_cell? w _ hw391_0)).trans hw391_0)⟩ (fun hHeld => ?_)
         clear hK K
         refine norm_ (a' := ?_) ?_ ?_
         rotate_left
         ·show Act.put _ (some 23) _ = _
          simp only [Act.put, eA_, e0_, eS_, i64_w, i32_w]
          rfl
         refine pu_ 4 (some 24) (bv 27 31) rfl rfl (any_of HT_.out (by kernel_rfl)) (fun _ _ _ h => h) (by rfl) (fun w' => by go_simp; with_reducible rfl) (by simp only [Act.put, eA_, e0_, eS_, i64_w, i32_w]; rfl) ?_
         refine pu_ 5 (some 25) (bv 27 63) rfl rfl (any_of HT_.out (by kernel_rfl)) (fun _ _ _ h => h) (by rfl) (fun w' => by go_simp; with_reducible rfl) (by simp only [Act.put, eA_, e0_, eS_, i64_w, i32_w]; rfl) ?_
         refine pu_ 6 (some 26) (bv 27 127) rfl rfl (any_of HT_.out (by kernel_rfl)) (fun _ _ _ h => h) (by rfl) (fun w' => by go_simp; with_reducible rfl) (by simp only [Act.put, eA_, e0_, eS_, i64_w, i32_w]; rfl) ?_
         refine pu_ 9 (some 29) (bv 27 639) rfl rfl (any_of HT_.out (by kernel_rfl)) (fun _ _ _ h => h) (by rfl) (fun w' => by go_simp; with_reducible rfl) (by simp only [Act.put, eA_, e0_, eS_, i64_w, i32_w]; rfl) ?_
         refine tk_ 7 (some 27) (bv 27 767) rfl rfl (take_ofW HT_.out HW_.out (by kernel_rfl)) (fun _ _ _ h => h) (by rfl) hHeld (fun w' ⟨s0, s1, s2, s3, s4⟩ => by go_simp; with_reducible rfl) (by simp only [Act.put, eA_, e0_, eS_, i64_w, i32_w]; rfl) ?_
         refine pu_ 8 (some 28) (bv 27 1023) rfl rfl (any_of HT_.out (by kernel_rfl)) (fun _ _ _ h => h) (by rfl) (fun w' => by go_simp; with_reducible rfl) (by simp only [Act.put, eA_, e0_, eS_, i64_w, i32_w]; rfl) ?_
         refine tk_ 10 (some 30) (bv 27 2047) rfl rfl (take_ofW HT_.out HW_.out (by kernel_rfl)) (fun _ _ _ h => h) (by rfl) hHeld (fun w' ⟨s0, s1, s2, s3, s4⟩ => by go_simp; with_reducible rfl) (by simp only [Act.put, eA_, e0_, eS_, i64_w, i32_w]; rfl) ?_
         refine pu_ 11 (some 31) (bv 27 4095) rfl rfl (any_of HT_.out (by kernel_rfl)) (fun _ _ _ h => h) (by rfl) (fun w' => by go_simp; with_reducible rfl) (by simp only [Act.put, eA_, e0_, eS_, i64_w, i32_w]; rfl) ?_
         refine pu_ 12 (some 32) (bv 27 8191) rfl rfl (any_of HT_.out (by kernel_rfl)) (fun _ _ _ h => h) (by rfl) (fun w' => by go_simp; with_reducible rfl) (by simp only [Act.put, eA_, e0_, eS_, i64_w, i32_w]; rfl) ?_
         refine pu_ 13 (some 33) (bv 27 16383) rfl rfl (any_of HT_.out (by kernel_rfl)) (fun _ _ _ h => h) (by rfl) (fun w' => by go_simp; with_reducible rfl) (by simp only [Act.put, eA_, e0_, eS_, i64_w, i32_w]; rfl) ?_
         refine pu_ 14 (some 34) (bv 27 32767) rfl rfl (any_of HT_.out (by kernel_rfl)) (fun _ _ _ h => h) (by rfl) (fun w' => by go_simp; with_reducible rfl) (by simp only [Act.put, eA_, e0_, eS_, i64_w, i32_w]; rfl) ?_
         refine pu_ 15 (some 35) (bv 27 65535) rfl rfl (any_of HT_.out (by kernel_rfl)) (fun _ _ _ h => h) (by rfl) (fun w' => by go_simp; with_reducible rfl) (by simp only [Act.put, eA_, e0_, eS_, i64_w, i32_w]; rfl) ?_
         refine pu_ 17 (some 37) (bv 27 196607) rfl rfl (any_of HT_.out (by kernel_rfl)) (fun _ _ _ h => h) (by rfl) (fun w' => by go_simp; with_reducible rfl) (by simp only [Act.put, eA_, e0_, eS_, i64_w, i32_w]; rfl) ?_
         refine tk_ 16 (some 36) (bv 27 262143) rfl rfl (take_ofW HT_.out HW_.out (by kernel_rfl)) (fun _ _ _ h => h) (by rfl) hHeld (fun w' ⟨s0, s1, s2, s3, s4⟩ => by go_simp; with_reducible rfl) (by simp only [Act.put, eA_, e0_, eS_, i64_w, i32_w]; rfl) ?_
         refine tk_ 18 (some 38) (bv 27 524287) rfl rfl (take_ofW HT_.out HW_.out (by kernel_rfl)) (fun _ _ _ h => h) (by rfl) hHeld (fun w' ⟨s0, s1, s2, s3, s4⟩ => by go_simp; with_reducible rfl) (by simp only [Act.put, eA_, e0_, eS_, i64_w, i32_w]; rfl) ?_
         refine pu_ 19 (some 39) (bv 27 1048575) rfl rfl (any_of HT_.out (by kernel_rfl)) (fun _ _ _ h => h) (by rfl) (fun w' => by go_simp; with_reducible rfl) (by simp only [Act.put, eA_, e0_, eS_, i64_w, i32_w]; rfl) ?_
         refine pu_ 20 (some 40) (bv 27 2097151) rfl rfl (any_of HT_.out (by kernel_rfl)) (fun _ _ _ h => h) (by rfl) (fun w' => by go_simp; with_reducible rfl) (by simp only [Act.put, eA_, e0_, eS_, i64_w, i32_w]; rfl) ?_
         refine pu_ 21 (some 41) (bv 27 4194303) rfl rfl (any_of HT_.out (by kernel_rfl)) (fun _ _ _ h => h) (by rfl) (fun w' => by go_simp; with_reducible rfl) (by simp only [Act.put, eA_, e0_, eS_, i64_w, i32_w]; rfl) ?_
         refine tk_ 22 (some 42) (bv 27 8388607) rfl rfl (take_ofW HT_.out HW_.out (by kernel_rfl)) (fun _ _ _ h => h) (by rfl) hHeld (fun w' ⟨s0, s1, s2, s3, s4⟩ => by go_simp; with_reducible rfl) (by simp only [Act.put, eA_, e0_, eS_, i64_w, i32_w]; rfl) ?_
         refine tk_ 23 (some 43) (bv 27 16777215) rfl rfl (take_ofW HT_.out HW_.out (by kernel_rfl)) (fun _ _ _ h => h) (by rfl) hHeld (fun w' ⟨s0, s1, s2, s3, s4⟩ => by go_simp; with_reducible rfl) (by simp only [Act.put, eA_, e0_, eS_, i64_w, i32_w]; rfl) ?_
         refine one_ (i := 24) (N := some 44) (bv 27 33554431) rfl rfl (one_of HT_.out (by kernel_rfl)) (by decide) (fun K hK => ?_)
         refine goes_ Try.func78 (by kernel_rfl) rfl #[.agg #[.int .i64 a0_0, .int .i64 a0_1, .slice (some ad391) l0_2.length c0_2, .slice A0_3 l0_3.length c0_3]] (by rfl) rfl rfl (by (try simp only [List.map_toArray, List.map_cons, List.map_nil]); first | done | rfl | (simp only [List.length_drop, List.length_take]; rfl)) ?_
         with_reducible refine (impl_Plan_count.calls a0_0 a0_1 _ _ l0_2 _ _ l0_3 t392 _ ?side1 ?side2 ?side3 ?side4 A21.out).mono ?_
         (case side1 => repeat (first | exact (Kd.C_below HR0_2.out (gB HB.out)) | (with_reducible refine Kd.C_alloc ?_ _) | (with_reducible refine Kd.C_drewN ?_ _) | (with_reducible refine Kd.C_drew ?_)))
         (case side2 => exact HC0_2.out)
         (case side3 => repeat (first | exact (Kd.C_below HR0_3.out (gB HB.out)) | (with_reducible refine Kd.C_alloc ?_ _) | (with_reducible refine Kd.C_drewN ?_ _) | (with_reducible refine Kd.C_drew ?_)))
         (case side4 => exact HC0_3.out)
         rintro e w23 ⟨rfl, hb⟩
         refine ⟨_, rfl, ?_⟩
         have n0_ := Aside0.mk (blk_below (gK BK386.out) hb)
         have n1_ := Aside0.mk (below_step (gB HB.out) hb)
         clear BK386
         clear HB
         have BK386 := n0_
         have HB := n1_
         clear n0_ n1_
         (try clear hb)
         (try clear hb2)
         (try clear hk)
         (try clear hi)
         refine hK.out _ _ ⟨cz_ BK386.out 0 rfl, cz_ BK386.out 1 rfl, cz_ BK386.out 2 rfl, cz_ BK386.out 3 rfl, ((HB.out.cell (World.block_lt_of_cell? w _ hw391_0)).trans hw391_0)⟩ (fun hHeld => ?_)
         clear hK K
         refine norm_ (a' := ?_) ?_ ?_
         rotate_left
         ·show Act.put _ (some 44) _ = _
          simp only [Act.put, eA_, e0_, eS_, i64_w, i32_w]
          rfl
         refine pu_ 25 (some 45) (bv 27 67108863) rfl rfl (any_of HT_.out (by kernel_rfl)) (fun _ _ _ h => h) (by rfl) (fun w' => by go_simp; with_reducible rfl) (by simp only [Act.put, eA_, e0_, eS_, i64_w, i32_w]; rfl) ?_
         refine pu_ 26 (some 46) (bv 27 134217727) rfl rfl (any_of HT_.out (by kernel_rfl)) (fun _ _ _ h => h) (by rfl) (fun w' => by go_simp; with_reducible rfl) (by simp only [Act.put, eA_, e0_, eS_, i64_w, i32_w]; rfl) ?_
         refine done_ (done_of HT_.out (by kernel_rfl)) ?_
         try go_wp2
         go_meet
         case rel => exact ⟨_, (((rd l0_2 (ji18)) != t392)), (by first | rfl | (simp; done) | (simp only [← hji18] <;> (first | rfl | simp)) | (simp [*]; done)), H', ⟨by have := HJ1.out; first | omega | exact Nat.le_refl _⟩, ⟨by (with_reducible repeat (first | refine blk_drewN ?_ _ | refine blk_drew ?_ | refine blk_alloc ?_ _)); exact BK386.out⟩, ⟨by repeat (first | (with_reducible first | exact HB.out | apply below_alloc | apply pw_below_drewN | apply below_drew1 | refine below_set ?_ GE386.out) | exact HB.out)⟩⟩
        ·rw [if_neg c20] at H
         exact absurd H (by simp)
       ·rw [if_neg c19] at H
        exact absurd H (by simp)
      ·rw [if_neg c17] at H
       have c17b0 : ((l0_3.length : Int) == (l0_2.length : Int)) = false := beq_eq_false_iff_ne.mpr c17
       have c17b1 : ((l0_3.length : Int) != (l0_2.length : Int)) = true := bne_iff_ne.mpr c17
       have c17b2 : (l0_3.length == l0_2.length) = false := by first | simpa using c17 | (simp at c17 ⊢; omega)
       (first | rw [c17b0] | (simp only [i64_w, i32_w]; rw [c17b0]) | skip)
       have H' := Aside0.mk H
       clear H
       try go_wp2
       have n0_ := Aside0.mk (blk_drew BK386.out)
       have n1_ := Aside0.mk (below_drew1 HB.out)
       clear BK386
       clear HB
       have BK386 := n0_
       have HB := n1_
       clear n0_ n1_
       refine start_ (n := 27) (S := fun w' => w'.cell? ⟨gb386, 0, none⟩ = some (.int .i64 a0_0) ∧ w'.cell? ⟨gb386, 1, none⟩ = some (.int .i64 a0_1) ∧ w'.cell? ⟨gb386, 2, none⟩ = some (.slice A0_2 l0_2.length c0_2) ∧ w'.cell? ⟨gb386, 3, none⟩ = some (.slice A0_3 l0_3.length c0_3)) (ds := []) (.replicate 27 false) (by kernel_rfl) rfl rfl ⟨cz_ BK386.out 0 rfl, cz_ BK386.out 1 rfl, cz_ BK386.out 2 rfl, cz_ BK386.out 3 rfl⟩ (fun hHeld => ?_); refine with_tabW impl_PlanOk.tab3 impl_PlanOk.bits3 (fun HT_ HW_ => ?_)
       generalize wc.drew = w24 at BK386 HB hHeld ⊢
       refine pu_ 0 (some 20) (bv 27 1) rfl rfl (any_of HT_.out (by kernel_rfl)) (fun _ _ _ h => h) (by rfl) (fun w' => by go_simp; with_reducible rfl) (by simp only [Act.put, eA_, e0_, eS_, i64_w, i32_w]; rfl) ?_
       refine tk_ 1 (some 21) (bv 27 3) rfl rfl (take_ofW HT_.out HW_.out (by kernel_rfl)) (fun _ _ _ h => h) (by rfl) hHeld (fun w' ⟨s0, s1, s2, s3⟩ => by go_simp; with_reducible rfl) (by simp only [Act.put, eA_, e0_, eS_, i64_w, i32_w]; rfl) ?_
       refine pu_ 2 (some 22) (bv 27 7) rfl rfl (any_of HT_.out (by kernel_rfl)) (fun _ _ _ h => h) (by rfl) (fun w' => by go_simp; with_reducible rfl) (by simp only [Act.put, eA_, e0_, eS_, i64_w, i32_w]; rfl) ?_
       refine one_ (i := 3) (N := some 23) (bv 27 15) rfl rfl (one_of HT_.out (by kernel_rfl)) (by decide) (fun K hK => ?_)
       refine goes_ Try.func66 (by kernel_rfl) rfl #[.int .i64 (l0_2.length : Int), .int .i64 1, .int .i64 3] (by rfl) rfl rfl (by (try simp only [List.map_toArray, List.map_cons, List.map_nil]); first | done | rfl | (simp only [List.length_drop, List.length_take]; rfl)) ?_
       with_reducible refine (impl_within.calls (l0_2.length : Int) 1 3 true _ A15.out).mono ?_
       rintro e w' ⟨rfl, ⟨nd, rfl⟩⟩
       refine ⟨_, rfl, ?_⟩
       refine hK.out _ _ ⟨cz_ BK386.out 0 rfl, cz_ BK386.out 1 rfl, cz_ BK386.out 2 rfl, cz_ BK386.out 3 rfl⟩ (fun hHeld => ?_)
       clear hK K
       refine norm_ (a' := ?_) ?_ ?_
       rotate_left
       ·show Act.put _ (some 23) _ = _
        simp only [Act.put, eA_, e0_, eS_, i64_w, i32_w]
        rfl
       refine pu_ 4 (some 24) (bv 27 31) rfl rfl (any_of HT_.out (by kernel_rfl)) (fun _ _ _ h => h) (by rfl) (fun w' => by go_simp; with_reducible rfl) (by simp only [Act.put, eA_, e0_, eS_, i64_w, i32_w]; rfl) ?_
       refine pu_ 5 (some 25) (bv 27 63) rfl rfl (any_of HT_.out (by kernel_rfl)) (fun _ _ _ h => h) (by rfl) (fun w' => by go_simp; with_reducible rfl) (by simp only [Act.put, eA_, e0_, eS_, i64_w, i32_w]; rfl) ?_
       refine pu_ 6 (some 26) (bv 27 127) rfl rfl (any_of HT_.out (by kernel_rfl)) (fun _ _ _ h => h) (by rfl) (fun w' => by go_simp; with_reducible rfl) (by simp only [Act.put, eA_, e0_, eS_, i64_w, i32_w]; rfl) ?_
       refine pu_ 9 (some 29) (bv 27 639) rfl rfl (any_of HT_.out (by kernel_rfl)) (fun _ _ _ h => h) (by rfl) (fun w' => by go_simp; with_reducible rfl) (by simp only [Act.put, eA_, e0_, eS_, i64_w, i32_w]; rfl) ?_
       refine tk_ 7 (some 27) (bv 27 767) rfl rfl (take_ofW HT_.out HW_.out (by kernel_rfl)) (fun _ _ _ h => h) (by rfl) hHeld (fun w' ⟨s0, s1, s2, s3⟩ => by go_simp; with_reducible rfl) (by simp only [Act.put, eA_, e0_, eS_, i64_w, i32_w]; rfl) ?_
       refine pu_ 8 (some 28) (bv 27 1023) rfl rfl (any_of HT_.out (by kernel_rfl)) (fun _ _ _ h => h) (by rfl) (fun w' => by go_simp; with_reducible rfl) (by simp only [Act.put, eA_, e0_, eS_, i64_w, i32_w]; rfl) ?_
       refine tk_ 10 (some 30) (bv 27 2047) rfl rfl (take_ofW HT_.out HW_.out (by kernel_rfl)) (fun _ _ _ h => h) (by rfl) hHeld (fun w' ⟨s0, s1, s2, s3⟩ => by go_simp; with_reducible rfl) (by simp only [Act.put, eA_, e0_, eS_, i64_w, i32_w]; rfl) ?_
       refine pu_ 11 (some 31) (bv 27 4095) rfl rfl (any_of HT_.out (by kernel_rfl)) (fun _ _ _ h => h) (by rfl) (fun w' => by go_simp; with_reducible rfl) (by simp only [Act.put, eA_, e0_, eS_, i64_w, i32_w]; rfl) ?_
       refine pu_ 12 (some 32) (bv 27 8191) rfl rfl (any_of HT_.out (by kernel_rfl)) (fun _ _ _ h => h) (by rfl) (fun w' => by go_simp; with_reducible rfl) (by simp only [Act.put, eA_, e0_, eS_, i64_w, i32_w]; rfl) ?_
       refine pu_ 13 (some 33) (bv 27 16383) rfl rfl (any_of HT_.out (by kernel_rfl)) (fun _ _ _ h => h) (by rfl) (fun w' => by go_simp; with_reducible rfl) (by simp only [Act.put, eA_, e0_, eS_, i64_w, i32_w]; rfl) ?_
       refine pu_ 14 (some 34) (bv 27 32767) rfl rfl (any_of HT_.out (by kernel_rfl)) (fun _ _ _ h => h) (by rfl) (fun w' => by go_simp; with_reducible rfl) (by simp only [Act.put, eA_, e0_, eS_, i64_w, i32_w]; rfl) ?_
       refine sk_ 11 [15, 16, 17, 18, 19, 20, 21, 22, 23, 24, 25] [35, 36, 37, 38, 39, 40, 41, 42, 43, 44, 45] (bv 27 67108863) rfl (skB_of HT_.out (by kernel_rfl)) (by kernel_rfl) (fun _ _ _ _ _ h => h) (by simp only [putU, Act.put, eA_, e0_, eS_]; rfl) ?_
       refine pu_ 26 (some 46) (bv 27 134217727) rfl rfl (any_of HT_.out (by kernel_rfl)) (fun _ _ _ h => h) (by rfl) (fun w' => by go_simp; with_reducible rfl) (by simp only [Act.put, eA_, e0_, eS_, i64_w, i32_w]; rfl) ?_
       refine done_ (done_of HT_.out (by kernel_rfl)) ?_
       try go_wp2
       go_meet
       case rel => exact ⟨_, (true), (by first | rfl | (simp; done) | (simp [*]; done) | (simp [wrap64]; done)), H', ⟨by have := HJ1.out; first | omega | exact Nat.le_refl _⟩, ⟨by (with_reducible repeat (first | refine blk_drewN ?_ _ | refine blk_drew ?_ | refine blk_alloc ?_ _)); exact BK386.out⟩, ⟨by repeat (first | (with_reducible first | exact HB.out | apply below_alloc | apply pw_below_drewN | apply below_drew1 | refine below_set ?_ GE386.out) | exact HB.out)⟩⟩
     ·replace c16 := Bool.eq_false_iff.mpr c16
      subst c16
      have H1 : (impl_PlanOk.j1 kj1 true a0_0 a0_1 l0_2 l0_3) = some r := by rw [if_neg (show ¬ (false = true) by decide)] at H; exact H
      clear H
      have H := H1
      clear H1
      have H' := Aside0.mk H
      clear H
      try go_wp2
      have n0_ := Aside0.mk (blk_drew BK386.out)
      have n1_ := Aside0.mk (below_drew1 HB.out)
      clear BK386
      clear HB
      have BK386 := n0_
      have HB := n1_
      clear n0_ n1_
      refine start_ (n := 27) (S := fun w' => w'.cell? ⟨gb386, 0, none⟩ = some (.int .i64 a0_0) ∧ w'.cell? ⟨gb386, 1, none⟩ = some (.int .i64 a0_1) ∧ w'.cell? ⟨gb386, 2, none⟩ = some (.slice A0_2 l0_2.length c0_2) ∧ w'.cell? ⟨gb386, 3, none⟩ = some (.slice A0_3 l0_3.length c0_3)) (ds := []) (.replicate 27 false) (by kernel_rfl) rfl rfl ⟨cz_ BK386.out 0 rfl, cz_ BK386.out 1 rfl, cz_ BK386.out 2 rfl, cz_ BK386.out 3 rfl⟩ (fun hHeld => ?_); refine with_tabW impl_PlanOk.tab3 impl_PlanOk.bits3 (fun HT_ HW_ => ?_)
      generalize wc.drew = w25 at BK386 HB hHeld ⊢
      refine pu_ 0 (some 20) (bv 27 1) rfl rfl (any_of HT_.out (by kernel_rfl)) (fun _ _ _ h => h) (by rfl) (fun w' => by go_simp; with_reducible rfl) (by simp only [Act.put, eA_, e0_, eS_, i64_w, i32_w]; rfl) ?_
      refine tk_ 1 (some 21) (bv 27 3) rfl rfl (take_ofW HT_.out HW_.out (by kernel_rfl)) (fun _ _ _ h => h) (by rfl) hHeld (fun w' ⟨s0, s1, s2, s3⟩ => by go_simp; with_reducible rfl) (by simp only [Act.put, eA_, e0_, eS_, i64_w, i32_w]; rfl) ?_
      refine pu_ 2 (some 22) (bv 27 7) rfl rfl (any_of HT_.out (by kernel_rfl)) (fun _ _ _ h => h) (by rfl) (fun w' => by go_simp; with_reducible rfl) (by simp only [Act.put, eA_, e0_, eS_, i64_w, i32_w]; rfl) ?_
      refine one_ (i := 3) (N := some 23) (bv 27 15) rfl rfl (one_of HT_.out (by kernel_rfl)) (by decide) (fun K hK => ?_)
      refine goes_ Try.func66 (by kernel_rfl) rfl #[.int .i64 (l0_2.length : Int), .int .i64 1, .int .i64 3] (by rfl) rfl rfl (by (try simp only [List.map_toArray, List.map_cons, List.map_nil]); first | done | rfl | (simp only [List.length_drop, List.length_take]; rfl)) ?_
      with_reducible refine (impl_within.calls (l0_2.length : Int) 1 3 false _ A15.out).mono ?_
      rintro e w' ⟨rfl, ⟨nd, rfl⟩⟩
      refine ⟨_, rfl, ?_⟩
      refine hK.out _ _ ⟨cz_ BK386.out 0 rfl, cz_ BK386.out 1 rfl, cz_ BK386.out 2 rfl, cz_ BK386.out 3 rfl⟩ (fun hHeld => ?_)
      clear hK K
      refine norm_ (a' := ?_) ?_ ?_
      rotate_left
      ·show Act.put _ (some 23) _ = _
       simp only [Act.put, eA_, e0_, eS_, i64_w, i32_w]
       rfl
      refine pu_ 4 (some 24) (bv 27 31) rfl rfl (any_of HT_.out (by kernel_rfl)) (fun _ _ _ h => h) (by rfl) (fun w' => by go_simp; with_reducible rfl) (by simp only [Act.put, eA_, e0_, eS_, i64_w, i32_w]; rfl) ?_
      refine pu_ 5 (some 25) (bv 27 63) rfl rfl (any_of HT_.out (by kernel_rfl)) (fun _ _ _ h => h) (by rfl) (fun w' => by go_simp; with_reducible rfl) (by simp only [Act.put, eA_, e0_, eS_, i64_w, i32_w]; rfl) ?_
      refine sk_ 7 [6, 7, 8, 9, 10, 11, 12] [26, 27, 28, 29, 30, 31, 32] (bv 27 8191) rfl (skB_of HT_.out (by kernel_rfl)) (by kernel_rfl) (fun _ _ _ _ _ h => h) (by simp only [putU, Act.put, eA_, e0_, eS_]; rfl) ?_
      refine pu_ 13 (some 33) (bv 27 16383) rfl rfl (any_of HT_.out (by kernel_rfl)) (fun _ _ _ h => h) (by rfl) (fun w' => by go_simp; with_reducible rfl) (by simp only [Act.put, eA_, e0_, eS_, i64_w, i32_w]; rfl) ?_
      refine pu_ 14 (some 34) (bv 27 32767) rfl rfl (any_of HT_.out (by kernel_rfl)) (fun _ _ _ h => h) (by rfl) (fun w' => by go_simp; with_reducible rfl) (by simp only [Act.put, eA_, e0_, eS_, i64_w, i32_w]; rfl) ?_
      refine sk_ 11 [15, 16, 17, 18, 19, 20, 21, 22, 23, 24, 25] [35, 36, 37, 38, 39, 40, 41, 42, 43, 44, 45] (bv 27 67108863) rfl (skB_of HT_.out (by kernel_rfl)) (by kernel_rfl) (fun _ _ _ _ _ h => h) (by simp only [putU, Act.put, eA_, e0_, eS_]; rfl) ?_
      refine pu_ 26 (some 46) (bv 27 134217727) rfl rfl (any_of HT_.out (by kernel_rfl)) (fun _ _ _ h => h) (by rfl) (fun w' => by go_simp; with_reducible rfl) (by simp only [Act.put, eA_, e0_, eS_, i64_w, i32_w]; rfl) ?_
      refine done_ (done_of HT_.out (by kernel_rfl)) ?_
      try go_wp2
      go_meet
      case rel => exact ⟨_, (true), (by first | rfl | (simp; done) | (simp [*]; done) | (simp [wrap64]; done)), H', ⟨by have := HJ1.out; first | omega | exact Nat.le_refl _⟩, ⟨by (with_reducible repeat (first | refine blk_drewN ?_ _ | refine blk_drew ?_ | refine blk_alloc ?_ _)); exact BK386.out⟩, ⟨by repeat (first | (with_reducible first | exact HB.out | apply below_alloc | apply pw_below_drewN | apply below_drew1 | refine below_set ?_ GE386.out) | exact HB.out)⟩⟩
    case rest =>
     clear HC14
     try clear c1
     try clear c2
     try clear p2
     try clear c6
     try clear c7
     try clear c16
     try clear c17
     try clear c17b0
     try clear c17b1
     try clear c17b2
     try clear c19
     try clear c20
     obtain ⟨kq, x46_13, rfl, HA, HJ13, BK386, HB⟩ := hcut
     cases kq with
     | zero => exact absurd HA.out (by simp [impl_PlanOk.j1])
     | succ kj13 =>
      have H := HA.out
      clear HA
      simp only [impl_PlanOk.j1] at H
      by_cases c26 : x46_13 = true
      ·subst c26
       have H1 : (some false) = some r := by rw [if_pos rfl] at H; exact H
       clear H
       have H := H1
       clear H1
       obtain rfl := Option.some.inj H
       go_wp2
       go_ret
       exact ⟨by first | rfl | (simp [errW_none, errW_some] <;> rfl) | (simp [*, errW_none, errW_some] <;> rfl), by repeat (first | (with_reducible first | exact HB.out | apply below_alloc | apply pw_below_drewN | apply below_drew1 | refine below_set ?_ GE386.out) | exact HB.out)⟩
      ·replace c26 := Bool.eq_false_iff.mpr c26
       subst c26
       have H1 : (impl_PlanOk.l0 kj13 l0_2 (l0_2.length : Int) 0 a0_0 a0_1 l0_2 l0_3) = some r := by rw [if_neg (show ¬ (false = true) by decide)] at H; exact H
       clear H
       have H := H1
       clear H1
       have H' := Aside0.mk H
       clear H
       have hcz27_0 := cz_ BK386.out 0 rfl
       have hcz27_1 := cz_ BK386.out 1 rfl
       have hcz27_2 := cz_ BK386.out 2 rfl
       have hcz27_3 := cz_ BK386.out 3 rfl
       have hfz27_0 := blk_frozen BK386.out 0
       have hfz27_1 := blk_frozen BK386.out 1
       have hfz27_2 := blk_frozen BK386.out 2
       have hfz27_3 := blk_frozen BK386.out 3
       go_wp2
       go_loopg [50] kj13 (fun kq v50 w' => ∃ (x50_3 : Int), v50 = .int .i64 x50_3 ∧ Aside0 (impl_PlanOk.l0 kq l0_2 (l0_2.length : Int) x50_3 a0_0 a0_1 l0_2 l0_3 = some r) ∧ Aside0 (kq ≤ kj13) ∧ Aside0 (w'.heap[gb386]? = some (.cells #[.int .i64 a0_0, .int .i64 a0_1, (.slice A0_2 l0_2.length c0_2), (.slice A0_3 l0_3.length c0_3)] 46 (0, 0))) ∧ Aside0 (Below w.heap.size w w'))
       case atStart => exact ⟨(0), (by first | rfl | (simp; done) | (simp [*]; done) | (simp [wrap64]; done)), H', ⟨Nat.le_refl _⟩, ⟨by (with_reducible repeat (first | refine blk_drewN ?_ _ | refine blk_drew ?_ | refine blk_alloc ?_ _)); exact BK386.out⟩, ⟨by repeat (first | (with_reducible first | exact HB.out | apply below_alloc | apply pw_below_drewN | apply below_drew1 | refine below_set ?_ GE386.out) | exact HB.out)⟩⟩
       case round =>
        clear H'
        try clear c1
        try clear c2
        try clear p2
        try clear c6
        try clear c7
        try clear c16
        try clear c17
        try clear c17b0
        try clear c17b1
        try clear c17b2
        try clear c19
        try clear c20
        try clear c26
        try clear hcz27_0
        try clear hcz27_1
        try clear hcz27_2
        try clear hcz27_3
        try clear hfz27_0
        try clear hfz27_1
        try clear hfz27_2
        try clear hfz27_3
        try clear p2
        obtain ⟨x50_3, rfl, HA, HK3, BK386, HB⟩ := hrel
        cases gk with
        | zero => exact absurd HA.out (by simp [impl_PlanOk.l0])
        | succ k3 =>
         have H := HA.out
         clear HA
         simp only [impl_PlanOk.l0] at H
         by_cases c28 : x50_3 < (l0_2.length : Int)
         ·rw [if_pos c28] at H
          have c28b0 : decide (x50_3 < (l0_2.length : Int)) = true := decide_eq_true c28
          clear c28
          by_cases c29 : 0 ≤ x50_3
          ·rw [if_pos c29] at H
           have c29b0 : decide (0 ≤ x50_3) = true := decide_eq_true c29
           clear c29
           by_cases c30 : x50_3 < (l0_2.length : Int)
           ·rw [if_pos c30] at H
            have c30b0 : decide (x50_3 < (l0_2.length : Int)) = true := decide_eq_true c30
            clear c30
            replace H := bI_ H
            obtain ⟨t394, A310, H⟩ := H
            replace H : ((impl_within.f (rd l0_2 x50_3) 1 t394).bind fun t395 => (if t395 = true then (if x50_3 > 0 then (if 0 ≤ (wrap64 (x50_3 - 1)) then (if (wrap64 (x50_3 - 1)) < (l0_2.length : Int) then (if (rd l0_2 (wrap64 (x50_3 - 1))) ≥ (rd l0_2 x50_3) then (some false) else (if x50_3 < (l0_3.length : Int) then ((impl_within.f (rd l0_3 x50_3) 1 99).bind fun t398 => (if t398 = true then (impl_PlanOk.l0 k3 l0_2 (l0_2.length : Int) (wrap64 (x50_3 + 1)) a0_0 a0_1 l0_2 l0_3) else (some false))) else (none))) else (none)) else (none)) else (if x50_3 < (l0_3.length : Int) then ((impl_within.f (rd l0_3 x50_3) 1 99).bind fun t400 => (if t400 = true then (impl_PlanOk.l0 k3 l0_2 (l0_2.length : Int) (wrap64 (x50_3 + 1)) a0_0 a0_1 l0_2 l0_3) else (some false))) else (none))) else (some false))) = some r := H
            have A31 := Aside0.mk A310
            clear A310
            replace H := bI_ H
            obtain ⟨t395, A320, H⟩ := H
            replace H : (if t395 = true then (if x50_3 > 0 then (if 0 ≤ (wrap64 (x50_3 - 1)) then (if (wrap64 (x50_3 - 1)) < (l0_2.length : Int) then (if (rd l0_2 (wrap64 (x50_3 - 1))) ≥ (rd l0_2 x50_3) then (some false) else (if x50_3 < (l0_3.length : Int) then ((impl_within.f (rd l0_3 x50_3) 1 99).bind fun t398 => (if t398 = true then (impl_PlanOk.l0 k3 l0_2 (l0_2.length : Int) (wrap64 (x50_3 + 1)) a0_0 a0_1 l0_2 l0_3) else (some false))) else (none))) else (none)) else (none)) else (if x50_3 < (l0_3.length : Int) then ((impl_within.f (rd l0_3 x50_3) 1 99).bind fun t400 => (if t400 = true then (impl_PlanOk.l0 k3 l0_2 (l0_2.length : Int) (wrap64 (x50_3 + 1)) a0_0 a0_1 l0_2 l0_3) else (some false))) else (none))) else (some false)) = some r := H
            have A32 := Aside0.mk A320
            clear A320
            by_cases c33 : t395 = true
            ·subst c33
             have H1 : (if x50_3 > 0 then (if 0 ≤ (wrap64 (x50_3 - 1)) then (if (wrap64 (x50_3 - 1)) < (l0_2.length : Int) then (if (rd l0_2 (wrap64 (x50_3 - 1))) ≥ (rd l0_2 x50_3) then (some false) else (if x50_3 < (l0_3.length : Int) then ((impl_within.f (rd l0_3 x50_3) 1 99).bind fun t398 => (if t398 = true then (impl_PlanOk.l0 k3 l0_2 (l0_2.length : Int) (wrap64 (x50_3 + 1)) a0_0 a0_1 l0_2 l0_3) else (some false))) else (none))) else (none)) else (none)) else (if x50_3 < (l0_3.length : Int) then ((impl_within.f (rd l0_3 x50_3) 1 99).bind fun t400 => (if t400 = true then (impl_PlanOk.l0 k3 l0_2 (l0_2.length : Int) (wrap64 (x50_3 + 1)) a0_0 a0_1 l0_2 l0_3) else (some false))) else (none))) = some r := by rw [if_pos rfl] at H; exact H
             clear H
             have H := H1
             clear H1
             by_cases c34 : x50_3 > 0
             ·rw [if_pos c34] at H
              have c34b0 : decide (0 < x50_3) = true := decide_eq_true c34
              clear c34
              obtain ⟨ji35, hji35⟩ : ∃ j_ : Int, (wrap64 (x50_3 - 1)) = j_ := ⟨_, rfl⟩
              replace H : (if 0 ≤ (ji35) then (if (ji35) < (l0_2.length : Int) then (if (rd l0_2 (ji35)) ≥ (rd l0_2 x50_3) then (some false) else (if x50_3 < (l0_3.length : Int) then ((impl_within.f (rd l0_3 x50_3) 1 99).bind fun t398 => (if t398 = true then (impl_PlanOk.l0 k3 l0_2 (l0_2.length : Int) (wrap64 (x50_3 + 1)) a0_0 a0_1 l0_2 l0_3) else (some false))) else (none))) else (none)) else (none)) = some r := by first | (rw [hji35] at H; exact H) | (simp only [hji35] at H ⊢; exact H)
              (try rw [hji35] at A31)
              (try rw [hji35] at A32)
              have hji35w : (IntKind.i64.wrap (x50_3 - 1)) = ji35 := (i64_w _).trans hji35
              by_cases c36 : 0 ≤ (ji35)
              ·rw [if_pos c36] at H
               have c36b0 : decide (0 ≤ (ji35)) = true := decide_eq_true c36
               clear c36
               by_cases c37 : (ji35) < (l0_2.length : Int)
               ·rw [if_pos c37] at H
                have c37b0 : decide ((ji35) < (l0_2.length : Int)) = true := decide_eq_true c37
                clear c37
                by_cases c38 : (rd l0_2 (ji35)) ≥ (rd l0_2 x50_3)
                ·rw [if_pos c38] at H
                 have c38b0 : decide ((rd l0_2 x50_3) ≤ (rd l0_2 (ji35))) = true := decide_eq_true c38
                 clear c38
                 obtain rfl := Option.some.inj H
                 have p393 : 0 ≤ (x50_3 : Int) := of_decide_eq_true (by first | (with_reducible assumption) | assumption)
                 have q393 : x50_3 < (l0_2.length : Int) := of_decide_eq_true (by first | (with_reducible assumption) | assumption)
                 obtain ⟨ad393, e393, hx393_0⟩ := Kd.at_int HR0_2.out x50_3 p393 q393
                 cases e393
                 replace hx393_0 := (HB.out.cell (World.block_lt_of_cell? w _ hx393_0)).trans hx393_0
                 replace p393 := eq_true p393
                 replace q393 := eq_true q393
                 have hcz39_0 := cz_ BK386.out 0 rfl
                 have hcz39_1 := cz_ BK386.out 1 rfl
                 have hcz39_2 := cz_ BK386.out 2 rfl
                 have hcz39_3 := cz_ BK386.out 3 rfl
                 have hfz39_0 := blk_frozen BK386.out 0
                 have hfz39_1 := blk_frozen BK386.out 1
                 have hfz39_2 := blk_frozen BK386.out 2
                 have hfz39_3 := blk_frozen BK386.out 3
                 go_wp2_with (first | ((with_reducible refine gate_callee (f := 78) rfl ?_); refine goesL_ (some 57) rfl rfl Try.func78 (by kernel_rfl) rfl #[.agg #[.int .i64 a0_0, .int .i64 a0_1, .slice (some ad393) l0_2.length c0_2, .slice A0_3 l0_3.length c0_3]] rfl (by (try simp only [List.map_toArray, List.map_cons, List.map_nil]); first | done | rfl | (simp only [List.length_drop, List.length_take]; rfl)) ?_; (with_reducible refine (impl_Plan_count.calls a0_0 a0_1 _ _ l0_2 _ _ l0_3 t394 _ ?side1 ?side2 ?side3 ?side4 A31.out).mono ?_); (case side1 => exact gC (Kd.C_below HR0_2.out HB.out)); (case side2 => exact HC0_2.out); (case side3 => exact gC (Kd.C_below HR0_3.out HB.out)); (case side4 => exact HC0_3.out); rintro e w40 ⟨rfl, hb⟩; refine ⟨_, rfl, ?_⟩; have n0_ := Aside0.mk (blk_below (gK BK386.out) hb); have n1_ := Aside0.mk (below_step (gB HB.out) hb); clear BK386; clear HB; have BK386 := n0_; have HB := n1_; clear n0_ n1_; (try clear hb); (try clear hb2); (try clear hk); (try clear hi)) | ((with_reducible refine gate_callee (f := 66) rfl ?_); refine goesL_ (some 58) rfl rfl Try.func66 (by kernel_rfl) rfl #[.int .i64 (rd l0_2 x50_3), .int .i64 1, .int .i64 t394] rfl (by (try simp only [List.map_toArray, List.map_cons, List.map_nil]); first | done | rfl | (simp only [List.length_drop, List.length_take]; rfl)) ?_; (with_reducible refine (impl_within.calls (rd l0_2 x50_3) 1 t394 true _ A32.out).mono ?_); rintro e w' ⟨rfl, ⟨nd, rfl⟩⟩; refine ⟨_, rfl, ?_⟩; have hcz41_0 := cz_ BK386.out 0 rfl; have hcz41_1 := cz_ BK386.out 1 rfl; have hcz41_2 := cz_ BK386.out 2 rfl; have hcz41_3 := cz_ BK386.out 3 rfl; have hfz41_0 := blk_frozen BK386.out 0; have hfz41_1 := blk_frozen BK386.out 1; have hfz41_2 := blk_frozen BK386.out 2; have hfz41_3 := blk_frozen BK386.out 3; have p396 : 0 ≤ ((ji35) : Int) := of_decide_eq_true (by first | (with_reducible assumption) | assumption); have q396 : (ji35) < (l0_2.length : Int) := of_decide_eq_true (by first | (with_reducible assumption) | assumption); obtain ⟨ad396, e396, hx396_0⟩ := Kd.at_int HR0_2.out (ji35) p396 q396; obtain rfl : ad393 = ad396 := (by injection e396); replace hx396_0 := (HB.out.cell (World.block_lt_of_cell? w _ hx396_0)).trans hx396_0; replace p396 := eq_true p396; replace q396 := eq_true q396))
                 go_ret
                 exact ⟨by first | rfl | (simp [errW_none, errW_some] <;> rfl) | (simp only [← hji35]; first | rfl | (simp [errW_none, errW_some] <;> rfl)) | (simp [*, errW_none, errW_some] <;> rfl), by repeat (first | (with_reducible first | exact HB.out | apply below_alloc | apply pw_below_drewN | apply below_drew1 | refine below_set ?_ GE386.out) | exact HB.out)⟩
                ·rw [if_neg c38] at H
                 have c38b0 : decide ((rd l0_2 x50_3) ≤ (rd l0_2 (ji35))) = false := decide_eq_false c38
                 clear c38
                 by_cases c42 : x50_3 < (l0_3.length : Int)
                 ·rw [if_pos c42] at H
                  have c42b0 : decide (x50_3 < (l0_3.length : Int)) = true := decide_eq_true c42
                  clear c42
                  replace H := bI_ H
                  obtain ⟨t398, A430, H⟩ := H
                  replace H : (if t398 = true then (impl_PlanOk.l0 k3 l0_2 (l0_2.length : Int) (wrap64 (x50_3 + 1)) a0_0 a0_1 l0_2 l0_3) else (some false)) = some r := H
                  have A43 := Aside0.mk A430
                  clear A430
                  by_cases c44 : t398 = true
                  ·subst c44
                   have H1 : (impl_PlanOk.l0 k3 l0_2 (l0_2.length : Int) (wrap64 (x50_3 + 1)) a0_0 a0_1 l0_2 l0_3) = some r := by rw [if_pos rfl] at H; exact H
                   clear H
                   have H := H1
                   clear H1
                   have H' := Aside0.mk H
                   clear H
                   have p393 : 0 ≤ (x50_3 : Int) := of_decide_eq_true (by first | (with_reducible assumption) | assumption)
                   have q393 : x50_3 < (l0_2.length : Int) := of_decide_eq_true (by first | (with_reducible assumption) | assumption)
                   obtain ⟨ad393, e393, hx393_0⟩ := Kd.at_int HR0_2.out x50_3 p393 q393
                   cases e393
                   replace hx393_0 := (HB.out.cell (World.block_lt_of_cell? w _ hx393_0)).trans hx393_0
                   replace p393 := eq_true p393
                   replace q393 := eq_true q393
                   have hcz45_0 := cz_ BK386.out 0 rfl
                   have hcz45_1 := cz_ BK386.out 1 rfl
                   have hcz45_2 := cz_ BK386.out 2 rfl
                   have hcz45_3 := cz_ BK386.out 3 rfl
                   have hfz45_0 := blk_frozen BK386.out 0
                   have hfz45_1 := blk_frozen BK386.out 1
                   have hfz45_2 := blk_frozen BK386.out 2
                   have hfz45_3 := blk_frozen BK386.out 3
                   go_wp2_with (first | ((with_reducible refine gate_callee (f := 78) rfl ?_); refine goesL_ (some 57) rfl rfl Try.func78 (by kernel_rfl) rfl #[.agg #[.int .i64 a0_0, .int .i64 a0_1, .slice (some ad393) l0_2.length c0_2, .slice A0_3 l0_3.length c0_3]] rfl (by (try simp only [List.map_toArray, List.map_cons, List.map_nil]); first | done | rfl | (simp only [List.length_drop, List.length_take]; rfl)) ?_; (with_reducible refine (impl_Plan_count.calls a0_0 a0_1 _ _ l0_2 _ _ l0_3 t394 _ ?side1 ?side2 ?side3 ?side4 A31.out).mono ?_); (case side1 => exact gC (Kd.C_below HR0_2.out HB.out)); (case side2 => exact HC0_2.out); (case side3 => exact gC (Kd.C_below HR0_3.out HB.out)); (case side4 => exact HC0_3.out); rintro e w46 ⟨rfl, hb⟩; refine ⟨_, rfl, ?_⟩; have n0_ := Aside0.mk (blk_below (gK BK386.out) hb); have n1_ := Aside0.mk (below_step (gB HB.out) hb); clear BK386; clear HB; have BK386 := n0_; have HB := n1_; clear n0_ n1_; (try clear hb); (try clear hb2); (try clear hk); (try clear hi)) | ((with_reducible refine gate_callee (f := 66) rfl ?_); refine goesL_ (some 58) rfl rfl Try.func66 (by kernel_rfl) rfl #[.int .i64 (rd l0_2 x50_3), .int .i64 1, .int .i64 t394] rfl (by (try simp only [List.map_toArray, List.map_cons, List.map_nil]); first | done | rfl | (simp only [List.length_drop, List.length_take]; rfl)) ?_; (with_reducible refine (impl_within.calls (rd l0_2 x50_3) 1 t394 true _ A32.out).mono ?_); rintro e w' ⟨rfl, ⟨nd, rfl⟩⟩; refine ⟨_, rfl, ?_⟩; have hcz47_0 := cz_ BK386.out 0 rfl; have hcz47_1 := cz_ BK386.out 1 rfl; have hcz47_2 := cz_ BK386.out 2 rfl; have hcz47_3 := cz_ BK386.out 3 rfl; have hfz47_0 := blk_frozen BK386.out 0; have hfz47_1 := blk_frozen BK386.out 1; have hfz47_2 := blk_frozen BK386.out 2; have hfz47_3 := blk_frozen BK386.out 3; have p396 : 0 ≤ ((ji35) : Int) := of_decide_eq_true (by first | (with_reducible assumption) | assumption); have q396 : (ji35) < (l0_2.length : Int) := of_decide_eq_true (by first | (with_reducible assumption) | assumption); obtain ⟨ad396, e396, hx396_0⟩ := Kd.at_int HR0_2.out (ji35) p396 q396; obtain rfl : ad393 = ad396 := (by injection e396); replace hx396_0 := (HB.out.cell (World.block_lt_of_cell? w _ hx396_0)).trans hx396_0; replace p396 := eq_true p396; replace q396 := eq_true q396; have p397 : 0 ≤ (x50_3 : Int) := of_decide_eq_true (by first | (with_reducible assumption) | assumption); have q397 : x50_3 < (l0_3.length : Int) := of_decide_eq_true (by first | (with_reducible assumption) | assumption); obtain ⟨ad397, e397, hx397_0⟩ := Kd.at_int HR0_3.out x50_3 p397 q397; cases e397; replace hx397_0 := (HB.out.cell (World.block_lt_of_cell? w _ hx397_0)).trans hx397_0; replace p397 := eq_true p397; replace q397 := eq_true q397) | (go_at_call 66; (with_reducible refine (impl_within.calls (rd l0_3 x50_3) 1 99 true _ A43.out).mono ?_); rintro e w' ⟨rfl, ⟨nd, rfl⟩⟩))
                   go_roundg k3
                   case measure => have := HJ1.out; have := HJ13.out; have := HK3.out; omega
                   case rel => exact ⟨(wrap64 (x50_3 + 1)), (by first | rfl | (simp; done) | (simp [*]; done) | (simp [wrap64]; done)), H', ⟨by have := HJ1.out; have := HJ13.out; have := HK3.out; omega⟩, ⟨by (with_reducible repeat (first | refine blk_drewN ?_ _ | refine blk_drew ?_ | refine blk_alloc ?_ _)); exact BK386.out⟩, ⟨by repeat (first | (with_reducible first | exact HB.out | apply below_alloc | apply pw_below_drewN | apply below_drew1 | refine below_set ?_ GE386.out) | exact HB.out)⟩⟩
                  ·replace c44 := Bool.eq_false_iff.mpr c44
                   subst c44
                   have H1 : (some false) = some r := by rw [if_neg (show ¬ (false = true) by decide)] at H; exact H
                   clear H
                   have H := H1
                   clear H1
                   obtain rfl := Option.some.inj H
                   have p393 : 0 ≤ (x50_3 : Int) := of_decide_eq_true (by first | (with_reducible assumption) | assumption)
                   have q393 : x50_3 < (l0_2.length : Int) := of_decide_eq_true (by first | (with_reducible assumption) | assumption)
                   obtain ⟨ad393, e393, hx393_0⟩ := Kd.at_int HR0_2.out x50_3 p393 q393
                   cases e393
                   replace hx393_0 := (HB.out.cell (World.block_lt_of_cell? w _ hx393_0)).trans hx393_0
                   replace p393 := eq_true p393
                   replace q393 := eq_true q393
                   have hcz48_0 := cz_ BK386.out 0 rfl
                   have hcz48_1 := cz_ BK386.out 1 rfl
                   have hcz48_2 := cz_ BK386.out 2 rfl
                   have hcz48_3 := cz_ BK386.out 3 rfl
                   have hfz48_0 := blk_frozen BK386.out 0
                   have hfz48_1 := blk_frozen BK386.out 1
                   have hfz48_2 := blk_frozen BK386.out 2
                   have hfz48_3 := blk_frozen BK386.out 3
                   go_wp2_with (first | ((with_reducible refine gate_callee (f := 78) rfl ?_); refine goesL_ (some 57) rfl rfl Try.func78 (by kernel_rfl) rfl #[.agg #[.int .i64 a0_0, .int .i64 a0_1, .slice (some ad393) l0_2.length c0_2, .slice A0_3 l0_3.length c0_3]] rfl (by (try simp only [List.map_toArray, List.map_cons, List.map_nil]); first | done | rfl | (simp only [List.length_drop, List.length_take]; rfl)) ?_; (with_reducible refine (impl_Plan_count.calls a0_0 a0_1 _ _ l0_2 _ _ l0_3 t394 _ ?side1 ?side2 ?side3 ?side4 A31.out).mono ?_); (case side1 => exact gC (Kd.C_below HR0_2.out HB.out)); (case side2 => exact HC0_2.out); (case side3 => exact gC (Kd.C_below HR0_3.out HB.out)); (case side4 => exact HC0_3.out); rintro e w49 ⟨rfl, hb⟩; refine ⟨_, rfl, ?_⟩; have n0_ := Aside0.mk (blk_below (gK BK386.out) hb); have n1_ := Aside0.mk (below_step (gB HB.out) hb); clear BK386; clear HB; have BK386 := n0_; have HB := n1_; clear n0_ n1_; (try clear hb); (try clear hb2); (try clear hk); (try clear hi)) | ((with_reducible refine gate_callee (f := 66) rfl ?_); refine goesL_ (some 58) rfl rfl Try.func66 (by kernel_rfl) rfl #[.int .i64 (rd l0_2 x50_3), .int .i64 1, .int .i64 t394] rfl (by (try simp only [List.map_toArray, List.map_cons, List.map_nil]); first | done | rfl | (simp only [List.length_drop, List.length_take]; rfl)) ?_; (with_reducible refine (impl_within.calls (rd l0_2 x50_3) 1 t394 true _ A32.out).mono ?_); rintro e w' ⟨rfl, ⟨nd, rfl⟩⟩; refine ⟨_, rfl, ?_⟩; have hcz50_0 := cz_ BK386.out 0 rfl; have hcz50_1 := cz_ BK386.out 1 rfl; have hcz50_2 := cz_ BK386.out 2 rfl; have hcz50_3 := cz_ BK386.out 3 rfl; have hfz50_0 := blk_frozen BK386.out 0; have hfz50_1 := blk_frozen BK386.out 1; have hfz50_2 := blk_frozen BK386.out 2; have hfz50_3 := blk_frozen BK386.out 3; have p396 : 0 ≤ ((ji35) : Int) := of_decide_eq_true (by first | (with_reducible assumption) | assumption); have q396 : (ji35) < (l0_2.length : Int) := of_decide_eq_true (by first | (with_reducible assumption) | assumption); obtain ⟨ad396, e396, hx396_0⟩ := Kd.at_int HR0_2.out (ji35) p396 q396; obtain rfl : ad393 = ad396 := (by injection e396); replace hx396_0 := (HB.out.cell (World.block_lt_of_cell? w _ hx396_0)).trans hx396_0; replace p396 := eq_true p396; replace q396 := eq_true q396; have p397 : 0 ≤ (x50_3 : Int) := of_decide_eq_true (by first | (with_reducible assumption) | assumption); have q397 : x50_3 < (l0_3.length : Int) := of_decide_eq_true (by first | (with_reducible assumption) | assumption); obtain ⟨ad397, e397, hx397_0⟩ := Kd.at_int HR0_3.out x50_3 p397 q397; cases e397; replace hx397_0 := (HB.out.cell (World.block_lt_of_cell? w _ hx397_0)).trans hx397_0; replace p397 := eq_true p397; replace q397 := eq_true q397) | (go_at_call 66; (with_reducible refine (impl_within.calls (rd l0_3 x50_3) 1 99 false _ A43.out).mono ?_); rintro e w' ⟨rfl, ⟨nd, rfl⟩⟩))
                   go_ret
                   exact ⟨by first | rfl | (simp [errW_none, errW_some] <;> rfl) | (simp only [← hji35]; first | rfl | (simp [errW_none, errW_some] <;> rfl)) | (simp [*, errW_none, errW_some] <;> rfl), by repeat (first | (with_reducible first | exact HB.out | apply below_alloc | apply pw_below_drewN | apply below_drew1 | refine below_set ?_ GE386.out) | exact HB.out)⟩
                 ·rw [if_neg c42] at H
                  exact absurd H (by simp)
               ·rw [if_neg c37] at H
                exact absurd H (by simp)
              ·rw [if_neg c36] at H
               exact absurd H (by simp)
             ·rw [if_neg c34] at H
              have c34b0 : decide (0 < x50_3) = false := decide_eq_false c34
              clear c34
              by_cases c51 : x50_3 < (l0_3.length : Int)
              ·rw [if_pos c51] at H
               have c51b0 : decide (x50_3 < (l0_3.length : Int)) = true := decide_eq_true c51
               clear c51
               replace H := bI_ H
               obtain ⟨t400, A520, H⟩ := H
               replace H : (if t400 = true then (impl_PlanOk.l0 k3 l0_2 (l0_2.length : Int) (wrap64 (x50_3 + 1)) a0_0 a0_1 l0_2 l0_3) else (some false)) = some r := H
               have A52 := Aside0.mk A520
               clear A520
               by_cases c53 : t400 = true
               ·subst c53
                have H1 : (impl_PlanOk.l0 k3 l0_2 (l0_2.length : Int) (wrap64 (x50_3 + 1)) a0_0 a0_1 l0_2 l0_3) = some r := by rw [if_pos rfl] at H; exact H
                clear H
                have H := H1
                clear H1
                have H' := Aside0.mk H
                clear H
                have p393 : 0 ≤ (x50_3 : Int) := of_decide_eq_true (by first | (with_reducible assumption) | assumption)
                have q393 : x50_3 < (l0_2.length : Int) := of_decide_eq_true (by first | (with_reducible assumption) | assumption)
                obtain ⟨ad393, e393, hx393_0⟩ := Kd.at_int HR0_2.out x50_3 p393 q393
                cases e393
                replace hx393_0 := (HB.out.cell (World.block_lt_of_cell? w _ hx393_0)).trans hx393_0
                replace p393 := eq_true p393
                replace q393 := eq_true q393
                have hcz54_0 := cz_ BK386.out 0 rfl
                have hcz54_1 := cz_ BK386.out 1 rfl
                have hcz54_2 := cz_ BK386.out 2 rfl
                have hcz54_3 := cz_ BK386.out 3 rfl
                have hfz54_0 := blk_frozen BK386.out 0
                have hfz54_1 := blk_frozen BK386.out 1
                have hfz54_2 := blk_frozen BK386.out 2
                have hfz54_3 := blk_frozen BK386.out 3
                go_wp2_with (first | ((with_reducible refine gate_callee (f := 78) rfl ?_); refine goesL_ (some 57) rfl rfl Try.func78 (by kernel_rfl) rfl #[.agg #[.int .i64 a0_0, .int .i64 a0_1, .slice (some ad393) l0_2.length c0_2, .slice A0_3 l0_3.length c0_3]] rfl (by (try simp only [List.map_toArray, List.map_cons, List.map_nil]); first | done | rfl | (simp only [List.length_drop, List.length_take]; rfl)) ?_; (with_reducible refine (impl_Plan_count.calls a0_0 a0_1 _ _ l0_2 _ _ l0_3 t394 _ ?side1 ?side2 ?side3 ?side4 A31.out).mono ?_); (case side1 => exact gC (Kd.C_below HR0_2.out HB.out)); (case side2 => exact HC0_2.out); (case side3 => exact gC (Kd.C_below HR0_3.out HB.out)); (case side4 => exact HC0_3.out); rintro e w55 ⟨rfl, hb⟩; refine ⟨_, rfl, ?_⟩; have n0_ := Aside0.mk (blk_below (gK BK386.out) hb); have n1_ := Aside0.mk (below_step (gB HB.out) hb); clear BK386; clear HB; have BK386 := n0_; have HB := n1_; clear n0_ n1_; (try clear hb); (try clear hb2); (try clear hk); (try clear hi)) | ((with_reducible refine gate_callee (f := 66) rfl ?_); refine goesL_ (some 58) rfl rfl Try.func66 (by kernel_rfl) rfl #[.int .i64 (rd l0_2 x50_3), .int .i64 1, .int .i64 t394] rfl (by (try simp only [List.map_toArray, List.map_cons, List.map_nil]); first | done | rfl | (simp only [List.length_drop, List.length_take]; rfl)) ?_; (with_reducible refine (impl_within.calls (rd l0_2 x50_3) 1 t394 true _ A32.out).mono ?_); rintro e w' ⟨rfl, ⟨nd, rfl⟩⟩; refine ⟨_, rfl, ?_⟩; have hcz56_0 := cz_ BK386.out 0 rfl; have hcz56_1 := cz_ BK386.out 1 rfl; have hcz56_2 := cz_ BK386.out 2 rfl; have hcz56_3 := cz_ BK386.out 3 rfl; have hfz56_0 := blk_frozen BK386.out 0; have hfz56_1 := blk_frozen BK386.out 1; have hfz56_2 := blk_frozen BK386.out 2; have hfz56_3 := blk_frozen BK386.out 3; have p399 : 0 ≤ (x50_3 : Int) := of_decide_eq_true (by first | (with_reducible assumption) | assumption); have q399 : x50_3 < (l0_3.length : Int) := of_decide_eq_true (by first | (with_reducible assumption) | assumption); obtain ⟨ad399, e399, hx399_0⟩ := Kd.at_int HR0_3.out x50_3 p399 q399; cases e399; replace hx399_0 := (HB.out.cell (World.block_lt_of_cell? w _ hx399_0)).trans hx399_0; replace p399 := eq_true p399; replace q399 := eq_true q399) | (go_at_call 66; (with_reducible refine (impl_within.calls (rd l0_3 x50_3) 1 99 true _ A52.out).mono ?_); rintro e w' ⟨rfl, ⟨nd, rfl⟩⟩))
                go_roundg k3
                case measure => have := HJ1.out; have := HJ13.out; have := HK3.out; omega
                case rel => exact ⟨(wrap64 (x50_3 + 1)), (by first | rfl | (simp; done) | (simp [*]; done) | (simp [wrap64]; done)), H', ⟨by have := HJ1.out; have := HJ13.out; have := HK3.out; omega⟩, ⟨by (with_reducible repeat (first | refine blk_drewN ?_ _ | refine blk_drew ?_ | refine blk_alloc ?_ _)); exact BK386.out⟩, ⟨by repeat (first | (with_reducible first | exact HB.out | apply below_alloc | apply pw_below_drewN | apply below_drew1 | refine below_set ?_ GE386.out) | exact HB.out)⟩⟩
               ·replace c53 := Bool.eq_false_iff.mpr c53
                subst c53
                have H1 : (some false) = some r := by rw [if_neg (show ¬ (false = true) by decide)] at H; exact H
                clear H
                have H := H1
                clear H1
                obtain rfl := Option.some.inj H
                have p393 : 0 ≤ (x50_3 : Int) := of_decide_eq_true (by first | (with_reducible assumption) | assumption)
                have q393 : x50_3 < (l0_2.length : Int) := of_decide_eq_true (by first | (with_reducible assumption) | assumption)
                obtain ⟨ad393, e393, hx393_0⟩ := Kd.at_int HR0_2.out x50_3 p393 q393
                cases e393
                replace hx393_0 := (HB.out.cell (World.block_lt_of_cell? w _ hx393_0)).trans hx393_0
                replace p393 := eq_true p393
                replace q393 := eq_true q393
                have hcz57_0 := cz_ BK386.out 0 rfl
                have hcz57_1 := cz_ BK386.out 1 rfl
                have hcz57_2 := cz_ BK386.out 2 rfl
                have hcz57_3 := cz_ BK386.out 3 rfl
                have hfz57_0 := blk_frozen BK386.out 0
                have hfz57_1 := blk_frozen BK386.out 1
                have hfz57_2 := blk_frozen BK386.out 2
                have hfz57_3 := blk_frozen BK386.out 3
                go_wp2_with (first | ((with_reducible refine gate_callee (f := 78) rfl ?_); refine goesL_ (some 57) rfl rfl Try.func78 (by kernel_rfl) rfl #[.agg #[.int .i64 a0_0, .int .i64 a0_1, .slice (some ad393) l0_2.length c0_2, .slice A0_3 l0_3.length c0_3]] rfl (by (try simp only [List.map_toArray, List.map_cons, List.map_nil]); first | done | rfl | (simp only [List.length_drop, List.length_take]; rfl)) ?_; (with_reducible refine (impl_Plan_count.calls a0_0 a0_1 _ _ l0_2 _ _ l0_3 t394 _ ?side1 ?side2 ?side3 ?side4 A31.out).mono ?_); (case side1 => exact gC (Kd.C_below HR0_2.out HB.out)); (case side2 => exact HC0_2.out); (case side3 => exact gC (Kd.C_below HR0_3.out HB.out)); (case side4 => exact HC0_3.out); rintro e w58 ⟨rfl, hb⟩; refine ⟨_, rfl, ?_⟩; have n0_ := Aside0.mk (blk_below (gK BK386.out) hb); have n1_ := Aside0.mk (below_step (gB HB.out) hb); clear BK386; clear HB; have BK386 := n0_; have HB := n1_; clear n0_ n1_; (try clear hb); (try clear hb2); (try clear hk); (try clear hi)) | ((with_reducible refine gate_callee (f := 66) rfl ?_); refine goesL_ (some 58) rfl rfl Try.func66 (by kernel_rfl) rfl #[.int .i64 (rd l0_2 x50_3), .int .i64 1, .int .i64 t394] rfl (by (try simp only [List.map_toArray, List.map_cons, List.map_nil]); first | done | rfl | (simp only [List.length_drop, List.length_take]; rfl)) ?_; (with_reducible refine (impl_within.calls (rd l0_2 x50_3) 1 t394 true _ A32.out).mono ?_); rintro e w' ⟨rfl, ⟨nd, rfl⟩⟩; refine ⟨_, rfl, ?_⟩; have hcz59_0 := cz_ BK386.out 0 rfl; have hcz59_1 := cz_ BK386.out 1 rfl; have hcz59_2 := cz_ BK386.out 2 rfl; have hcz59_3 := cz_ BK386.out 3 rfl; have hfz59_0 := blk_frozen BK386.out 0; have hfz59_1 := blk_frozen BK386.out 1; have hfz59_2 := blk_frozen BK386.out 2; have hfz59_3 := blk_frozen BK386.out 3; have p399 : 0 ≤ (x50_3 : Int) := of_decide_eq_true (by first | (with_reducible assumption) | assumption); have q399 : x50_3 < (l0_3.length : Int) := of_decide_eq_true (by first | (with_reducible assumption) | assumption); obtain ⟨ad399, e399, hx399_0⟩ := Kd.at_int HR0_3.out x50_3 p399 q399; cases e399; replace hx399_0 := (HB.out.cell (World.block_lt_of_cell? w _ hx399_0)).trans hx399_0; replace p399 := eq_true p399; replace q399 := eq_true q399) | (go_at_call 66; (with_reducible refine (impl_within.calls (rd l0_3 x50_3) 1 99 false _ A52.out).mono ?_); rintro e w' ⟨rfl, ⟨nd, rfl⟩⟩))
                go_ret
                exact ⟨by first | rfl | (simp [errW_none, errW_some] <;> rfl) | (simp [*, errW_none, errW_some] <;> rfl), by repeat (first | (with_reducible first | exact HB.out | apply below_alloc | apply pw_below_drewN | apply below_drew1 | refine below_set ?_ GE386.out) | exact HB.out)⟩
              ·rw [if_neg c51] at H
               exact absurd H (by simp)
            ·replace c33 := Bool.eq_false_iff.mpr c33
             subst c33
             have H1 : (some false) = some r := by rw [if_neg (show ¬ (false = true) by decide)] at H; exact H
             clear H
             have H := H1
             clear H1
             obtain rfl := Option.some.inj H
             have p393 : 0 ≤ (x50_3 : Int) := of_decide_eq_true (by first | (with_reducible assumption) | assumption)
             have q393 : x50_3 < (l0_2.length : Int) := of_decide_eq_true (by first | (with_reducible assumption) | assumption)
             obtain ⟨ad393, e393, hx393_0⟩ := Kd.at_int HR0_2.out x50_3 p393 q393
             cases e393
             replace hx393_0 := (HB.out.cell (World.block_lt_of_cell? w _ hx393_0)).trans hx393_0
             replace p393 := eq_true p393
             replace q393 := eq_true q393
             have hcz60_0 := cz_ BK386.out 0 rfl
             have hcz60_1 := cz_ BK386.out 1 rfl
             have hcz60_2 := cz_ BK386.out 2 rfl
             have hcz60_3 := cz_ BK386.out 3 rfl
             have hfz60_0 := blk_frozen BK386.out 0
             have hfz60_1 := blk_frozen BK386.out 1
             have hfz60_2 := blk_frozen BK386.out 2
             have hfz60_3 := blk_frozen BK386.out 3
             go_wp2_with (first | ((with_reducible refine gate_callee (f := 78) rfl ?_); refine goesL_ (some 57) rfl rfl Try.func78 (by kernel_rfl) rfl #[.agg #[.int .i64 a0_0, .int .i64 a0_1, .slice (some ad393) l0_2.length c0_2, .slice A0_3 l0_3.length c0_3]] rfl (by (try simp only [List.map_toArray, List.map_cons, List.map_nil]); first | done | rfl | (simp only [List.length_drop, List.length_take]; rfl)) ?_; (with_reducible refine (impl_Plan_count.calls a0_0 a0_1 _ _ l0_2 _ _ l0_3 t394 _ ?side1 ?side2 ?side3 ?side4 A31.out).mono ?_); (case side1 => exact gC (Kd.C_below HR0_2.out HB.out)); (case side2 => exact HC0_2.out); (case side3 => exact gC (Kd.C_below HR0_3.out HB.out)); (case side4 => exact HC0_3.out); rintro e w61 ⟨rfl, hb⟩; refine ⟨_, rfl, ?_⟩; have n0_ := Aside0.mk (blk_below (gK BK386.out) hb); have n1_ := Aside0.mk (below_step (gB HB.out) hb); clear BK386; clear HB; have BK386 := n0_; have HB := n1_; clear n0_ n1_; (try clear hb); (try clear hb2); (try clear hk); (try clear hi)) | ((with_reducible refine gate_callee (f := 66) rfl ?_); refine goesL_ (some 58) rfl rfl Try.func66 (by kernel_rfl) rfl #[.int .i64 (rd l0_2 x50_3), .int .i64 1, .int .i64 t394] rfl (by (try simp only [List.map_toArray, List.map_cons, List.map_nil]); first | done | rfl | (simp only [List.length_drop, List.length_take]; rfl)) ?_; (with_reducible refine (impl_within.calls (rd l0_2 x50_3) 1 t394 false _ A32.out).mono ?_); rintro e w' ⟨rfl, ⟨nd, rfl⟩⟩; refine ⟨_, rfl, ?_⟩))
             go_ret
             exact ⟨by first | rfl | (simp [errW_none, errW_some] <;> rfl) | (simp [*, errW_none, errW_some] <;> rfl), by repeat (first | (with_reducible first | exact HB.out | apply below_alloc | apply pw_below_drewN | apply below_drew1 | refine below_set ?_ GE386.out) | exact HB.out)⟩
           ·rw [if_neg c30] at H
            exact absurd H (by simp)
          ·rw [if_neg c29] at H
           exact absurd H (by simp)
         ·rw [if_neg c28] at H
          have c28b0 : decide (x50_3 < (l0_2.length : Int)) = false := decide_eq_false c28
          clear c28
          obtain rfl := Option.some.inj H
          go_wp2
          go_ret
          exact ⟨by first | rfl | (simp [errW_none, errW_some] <;> rfl) | (simp [*, errW_none, errW_some] <;> rfl), by repeat (first | (with_reducible first | exact HB.out | apply below_alloc | apply pw_below_drewN | apply below_drew1 | refine below_set ?_ GE386.out) | exact HB.out)⟩

end Go.Proofs.Ytaeeickboakmgaa.X
