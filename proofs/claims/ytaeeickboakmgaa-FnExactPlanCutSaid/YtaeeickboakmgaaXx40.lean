/- Printed for this claim by the session's program (the kit's printer, several laws in one place): the functions that the law reaches, each as a plain Lean function, and the proof that the Go code comes to its answers. Conditions: none beside those that each theorem states. -/
import Derived.Test.YtaeeickboakmgaaXx0
import Derived.Test.YtaeeickboakmgaaXx17
import Derived.Test.YtaeeickboakmgaaXx20
import Derived.Test.YtaeeickboakmgaaXx39
import Derived.Test.YtaeeickboakmgaaWAll
namespace Go.Proofs.Ytaeeickboakmgaa.X
open Go.RowKit Go.Proofs.YtaeeickboakmgaaW.PrintWords Go.Proofs.YtaeeickboakmgaaW.PrintLast Go.Proofs.YtaeeickboakmgaaW.PrintStep Go.Proofs.YtaeeickboakmgaaW.PrintMore
attribute [local go_sem] max2_int min2_int max_two min_two max_three min_three max_four min_four   -- for this text's walks alone
set_option linter.unusedVariables false
set_option linter.unusedSimpArgs false

/-! ### impl_GetNew: function 46 -/
def impl_GetNew.f (k : Nat) (a0_0 : Int) (a0_1 : Int) (l0_2 : List Int) (l0_3 : List Int) : Option (Int × Int × List Int × List Int × Int × Int × (List (S84))) := (impl_PlanOk.f k a0_0 a0_1 l0_2 l0_3).bind fun t834 => (if t834 = true then ((impl_clonePlan.f a0_0 a0_1 l0_2 l0_3).bind fun bt835 => ((impl_Plan_count.f a0_0 a0_1 l0_2 l0_3).bind fun t843 => ((impl_SolverNew.f t843 a0_1).bind fun bt844 => (some (bt835.1, bt835.2.1, bt835.2.2.1, bt835.2.2.2, bt844.1, bt844.2.1, bt844.2.2))))) else (some (0, 0, ([] : List Int), ([] : List Int), 0, 0, ([] : List (S84)))))
theorem impl_GetNew.mono : ∀ a0 a1 a2 a3 k, LeO (impl_GetNew.f k a0 a1 a2 a3) (impl_GetNew.f (k + 1) a0 a1 a2 a3) := by
 intro a0 a1 a2 a3 k
 unfold impl_GetNew.f
 repeat' first
  | (with_reducible exact impl_PlanOk.mono _ _ _ _ _)
  | (with_reducible exact LeO.refl _)
  | (with_reducible exact LeO.none _)
  | (with_reducible refine LeO.ite ?_ ?_)
  | (with_reducible refine LeO.bind ?_ (fun _ => ?_))
  | exact impl_PlanOk.mono _ _ _ _ _
  | exact LeO.none _
  | refine LeO.ite ?_ ?_
  | refine LeO.bind ?_ (fun _ => ?_)
def impl_GetNew.T3 : Bool × List (List Nat × List Nat) := (true, [([], []), ([0], [0]), ([], []), ([2, 1], [2]), ([], []), ([4], [4]), ([3, 5, 3], [3, 5]), ([1, 6], [1, 6]), ([7, 6, 0, 1, 2, 3, 4, 5, 6, 7], [7])])
def impl_GetNew.B3 : List Nat := [0, 1, 0, 7, 0, 16, 63, 127, 255]
theorem impl_GetNew.tab3 : rtab .any (opsOf Try.f46 3) = impl_GetNew.T3 := by kernel_rfl
theorem impl_GetNew.bits3 : waitsOk impl_GetNew.T3.2 impl_GetNew.B3 = true := by kernel_rfl
set_option maxHeartbeats 8000000 in
set_option maxRecDepth 100000 in
theorem impl_GetNew.calls (k : Nat) (a0_0 : Int) (a0_1 : Int) (A0_2 : Option Addr) (c0_2 : Nat) (l0_2 : List Int) (A0_3 : Option Addr) (c0_3 : Nat) (l0_3 : List Int) (r1 : Int) (r2 : Int) (r3 : List Int) (r4 : List Int) (r5 : Int) (r6 : Int) (r7 : List (S84)) (w : World) (hr0_2 : Kd.C (Kd.int .i64) w A0_2 l0_2.length l0_2) (hc0_2 : l0_2.length ≤ c0_2) (hr0_3 : Kd.C (Kd.int .i64) w A0_3 l0_3.length l0_3) (hc0_3 : l0_3.length ≤ c0_3) (h : impl_GetNew.f k a0_0 a0_1 l0_2 l0_3 = some (r1, r2, r3, r4, r5, r6, r7)) :
 Calls Try.prog 46 #[.agg #[.int .i64 a0_0, .int .i64 a0_1, .slice A0_2 l0_2.length c0_2, .slice A0_3 l0_3.length c0_3]] w fun e w' => ∃ v2_ v3_ v6_ : Value, e = .returned (.agg #[.int .i64 r1, .int .i64 r2, v2_, v3_, .int .i64 r5, .int .i64 r6, v6_]) ∧ Kd.R (Kd.int .i64) 3 w' w.heap.size (fun k_ => some k_ ≠ (v3_ : Value).ownBlock) v2_ r3 ∧ Kd.R (Kd.int .i64) 3 w' w.heap.size (fun k_ => some k_ ≠ (v2_ : Value).ownBlock) v3_ r4 ∧ Kd.S k84 84 w' w.heap.size (fun k_ => some k_ ≠ (v2_ : Value).ownBlock ∧ some k_ ≠ (v3_ : Value).ownBlock) v6_ r7 ∧ Below w.heap.size w w' := by
 have hu46 := Try.underlying46
 have hu61 := Try.underlying61
 have HR0_2 := Aside0.mk hr0_2
 have HC0_2 := Aside0.mk hc0_2
 clear hr0_2 hc0_2
 have HR0_3 := Aside0.mk hr0_3
 have HC0_3 := Aside0.mk hc0_3
 clear hr0_3 hc0_3
 have HB := Aside0.mk (Below.refl w.heap.size w)
 have H : ((impl_PlanOk.f k a0_0 a0_1 l0_2 l0_3).bind fun t834 => (if t834 = true then ((impl_clonePlan.f a0_0 a0_1 l0_2 l0_3).bind fun bt835 => ((impl_Plan_count.f a0_0 a0_1 l0_2 l0_3).bind fun t843 => ((impl_SolverNew.f t843 a0_1).bind fun bt844 => (some (bt835.1, bt835.2.1, bt835.2.2.1, bt835.2.2.2, bt844.1, bt844.2.1, bt844.2.2))))) else (some (0, 0, ([] : List Int), ([] : List Int), 0, 0, ([] : List (S84)))))) = some (r1, r2, r3, r4, r5, r6, r7) := h
 clear h
 replace H := bI_ H
 obtain ⟨t834, A20, H⟩ := H
 replace H : (if t834 = true then ((impl_clonePlan.f a0_0 a0_1 l0_2 l0_3).bind fun bt835 => ((impl_Plan_count.f a0_0 a0_1 l0_2 l0_3).bind fun t843 => ((impl_SolverNew.f t843 a0_1).bind fun bt844 => (some (bt835.1, bt835.2.1, bt835.2.2.1, bt835.2.2.2, bt844.1, bt844.2.1, bt844.2.2))))) else (some (0, 0, ([] : List Int), ([] : List Int), 0, 0, ([] : List (S84))))) = some (r1, r2, r3, r4, r5, r6, r7) := H
 have A2 := Aside0.mk A20
 clear A20
 by_cases c3 : t834 = true
 ·subst c3
  have H1 : ((impl_clonePlan.f a0_0 a0_1 l0_2 l0_3).bind fun bt835 => ((impl_Plan_count.f a0_0 a0_1 l0_2 l0_3).bind fun t843 => ((impl_SolverNew.f t843 a0_1).bind fun bt844 => (some (bt835.1, bt835.2.1, bt835.2.2.1, bt835.2.2.2, bt844.1, bt844.2.1, bt844.2.2))))) = some (r1, r2, r3, r4, r5, r6, r7) := by rw [if_pos rfl] at H; exact H
  clear H
  have H := H1
  clear H1
  replace H := bI_ H
  obtain ⟨⟨t835, t836, t837, t840⟩, A40, H⟩ := H
  replace H : ((impl_Plan_count.f a0_0 a0_1 l0_2 l0_3).bind fun t843 => ((impl_SolverNew.f t843 a0_1).bind fun bt844 => (some (t835, t836, t837, t840, bt844.1, bt844.2.1, bt844.2.2)))) = some (r1, r2, r3, r4, r5, r6, r7) := H
  have A4 := Aside0.mk A40
  clear A40
  replace H := bI_ H
  obtain ⟨t843, A50, H⟩ := H
  replace H : ((impl_SolverNew.f t843 a0_1).bind fun bt844 => (some (t835, t836, t837, t840, bt844.1, bt844.2.1, bt844.2.2))) = some (r1, r2, r3, r4, r5, r6, r7) := H
  have A5 := Aside0.mk A50
  clear A50
  replace H := bI_ H
  obtain ⟨⟨t844, t845, t846⟩, A60, H⟩ := H
  replace H : (some (t835, t836, t837, t840, t844, t845, t846)) = some (r1, r2, r3, r4, r5, r6, r7) := H
  have A6 := Aside0.mk A60
  clear A60
  simp only [Option.some.injEq, Prod.mk.injEq] at H
  obtain ⟨rfl, rfl, rfl, rfl, rfl, rfl, rfl⟩ := H
  go_enter Try.func46, Try.ntmps46
  try go_wp2_with (first | ((with_reducible refine gate_dst (N := 1) rfl ?_); refine box_event ?hg (N := 1) ?hd (cs := #[.int .i64 a0_0, .int .i64 a0_1, .slice A0_2 l0_2.length c0_2, .slice A0_3 l0_3.length c0_3]) (t := 46) ?hr ?_; (case hd => rfl); (case hg => rfl); (case hr => first | (go_simp; done) | (go_simp; rfl)); intro gb832 hg w7 hbox hb; have n0_ := Aside0.mk (below_step (gB HB.out) hb); have n1_ := Aside0.mk (hbox); have n2_ := Aside0.mk ((by rw [hg]; exact (below_size (gB HB.out)) : w.heap.size ≤ gb832)); have n3_ := n2_; clear HB; have HB := n0_; have BK832 := n1_; have GW832 := n2_; have GE832 := n3_; clear n0_ n1_ n2_ n3_; clear hb hbox hg) | ((with_reducible refine gate_dst (N := 2) rfl ?_); refine box_event ?hg (N := 2) ?hd (cs := #[.int .i64 0, .int .i64 0, .slice none 0 0, .slice none 0 0, .int .i64 0, .int .i64 0, .slice none 0 0]) (t := 61) ?hr ?_; (case hd => rfl); (case hg => rfl); (case hr => first | (go_simp; done) | (go_simp; rfl)); intro gb833 hg w8 hbox hb; have n0_ := Aside0.mk (blk_below (gK BK832.out) hb); have n1_ := Aside0.mk (below_step (gB HB.out) hb); have n2_ := Aside0.mk (hbox); have n3_ := Aside0.mk ((by rw [hg]; exact (below_size (gB HB.out)) : w.heap.size ≤ gb833)); have n4_ := n3_; have n5_ := Aside0.mk ((by rw [hg]; exact Nat.ne_of_lt (blk_lt (gK BK832.out)) : gb832 ≠ gb833)); have n6_ := Aside0.mk ((by rw [hg]; exact Nat.ne_of_gt (blk_lt (gK BK832.out)) : gb833 ≠ gb832)); clear BK832; clear HB; have BK832 := n0_; have HB := n1_; have BK833 := n2_; have GW833 := n3_; have GE833 := n4_; have NB832_833 := n5_; have NB833_832 := n6_; clear n0_ n1_ n2_ n3_ n4_ n5_ n6_; clear hb hbox hg; have hnb9 := NB832_833.out; have hnc9 := NB833_832.out; have hcz10_0 := cz_ BK832.out 0 rfl; have hcz10_1 := cz_ BK832.out 1 rfl; have hcz10_2 := cz_ BK832.out 2 rfl; have hcz10_3 := cz_ BK832.out 3 rfl; have hfz10_0 := blk_frozen BK832.out 0; have hfz10_1 := blk_frozen BK832.out 1; have hfz10_2 := blk_frozen BK832.out 2; have hfz10_3 := blk_frozen BK832.out 3) | ((with_reducible refine gate_callee (f := 76) rfl ?_); refine goesL_ (some 4) rfl rfl Try.func76 (by kernel_rfl) rfl #[.agg #[.int .i64 a0_0, .int .i64 a0_1, .slice A0_2 l0_2.length c0_2, .slice A0_3 l0_3.length c0_3]] rfl (by (try simp only [List.map_toArray, List.map_cons, List.map_nil]); first | done | rfl | (simp only [List.length_drop, List.length_take]; rfl)) ?_; (with_reducible refine (impl_PlanOk.calls k a0_0 a0_1 _ _ l0_2 _ _ l0_3 true _ ?side1 ?side2 ?side3 ?side4 A2.out).mono ?_); (case side1 => exact gC (Kd.C_below HR0_2.out HB.out)); (case side2 => exact HC0_2.out); (case side3 => exact gC (Kd.C_below HR0_3.out HB.out)); (case side4 => exact HC0_3.out); rintro e w11 ⟨rfl, hb⟩; refine ⟨_, rfl, ?_⟩; have n0_ := Aside0.mk (blk_below (gK BK832.out) hb); have n1_ := Aside0.mk (blk_below (gK BK833.out) hb); have n2_ := Aside0.mk (below_step (gB HB.out) hb); clear BK832; clear BK833; clear HB; have BK832 := n0_; have BK833 := n1_; have HB := n2_; clear n0_ n1_ n2_; (try clear hb); (try clear hb2); (try clear hk); (try clear hi)))
  have n0_ := Aside0.mk (blk_drew BK832.out)
  have n1_ := Aside0.mk (blk_drew BK833.out)
  have n2_ := Aside0.mk (below_drew1 HB.out)
  clear BK832
  clear BK833
  clear HB
  have BK832 := n0_
  have BK833 := n1_
  have HB := n2_
  clear n0_ n1_ n2_
  refine start_ (n := 9) (S := fun w' => w'.cell? ⟨gb832, 0, none⟩ = some (.int .i64 a0_0) ∧ w'.cell? ⟨gb832, 1, none⟩ = some (.int .i64 a0_1) ∧ w'.cell? ⟨gb832, 2, none⟩ = some (.slice A0_2 l0_2.length c0_2) ∧ w'.cell? ⟨gb832, 3, none⟩ = some (.slice A0_3 l0_3.length c0_3)) (ds := []) (.replicate 9 false) (by kernel_rfl) rfl rfl ⟨cz_ BK832.out 0 rfl, cz_ BK832.out 1 rfl, cz_ BK832.out 2 rfl, cz_ BK832.out 3 rfl⟩ (fun hHeld => ?_); refine with_tabW impl_GetNew.tab3 impl_GetNew.bits3 (fun HT_ HW_ => ?_)
  generalize w11.drew = w12 at BK832 BK833 HB hHeld ⊢
  refine pu_ 4 (some 11) (bv 9 16) rfl rfl (any_of HT_.out (by kernel_rfl)) (fun _ _ _ h => h) (by rfl) (fun w' => by go_simp; with_reducible rfl) (by simp only [Act.put, eA_, e0_, eS_, i64_w, i32_w]; rfl) ?_
  refine tk_ 0 (some 7) (bv 9 17) rfl rfl (take_ofW HT_.out HW_.out (by kernel_rfl)) (fun _ _ _ h => h) (by rfl) hHeld (fun w' ⟨s0, s1, s2, s3⟩ => by go_simp; with_reducible rfl) (by simp only [Act.put, eA_, e0_, eS_, i64_w, i32_w]; rfl) ?_
  refine tk_ 2 (some 9) (bv 9 21) rfl rfl (take_ofW HT_.out HW_.out (by kernel_rfl)) (fun _ _ _ h => h) (by rfl) hHeld (fun w' ⟨s0, s1, s2, s3⟩ => by go_simp; with_reducible rfl) (by simp only [Act.put, eA_, e0_, eS_, i64_w, i32_w]; rfl) ?_
  refine tk_ 5 (some 12) (bv 9 53) rfl rfl (take_ofW HT_.out HW_.out (by kernel_rfl)) (fun _ _ _ h => h) (by rfl) hHeld (fun w' ⟨s0, s1, s2, s3⟩ => by go_simp; with_reducible rfl) (by simp only [Act.put, eA_, e0_, eS_, i64_w, i32_w]; rfl) ?_
  refine one_ (i := 1) (N := some 8) (bv 9 55) rfl rfl (one_of HT_.out (by kernel_rfl)) (by decide) (fun K hK => ?_)
  refine goes_ Try.func91 (by kernel_rfl) rfl #[.agg #[.int .i64 a0_0, .int .i64 a0_1, .slice A0_2 l0_2.length c0_2, .slice A0_3 l0_3.length c0_3]] (by rfl) rfl rfl (by (try simp only [List.map_toArray, List.map_cons, List.map_nil]); first | done | rfl | (simp only [List.length_drop, List.length_take]; rfl)) ?_
  with_reducible refine (impl_clonePlan.calls a0_0 a0_1 _ _ l0_2 _ _ l0_3 t835 t836 t837 t840 _ ?side1 ?side2 ?side3 ?side4 A4.out).mono ?_
  (case side1 => exact gC (Kd.C_below HR0_2.out HB.out))
  (case side2 => exact HC0_2.out)
  (case side3 => exact gC (Kd.C_below HR0_3.out HB.out))
  (case side4 => exact HC0_3.out)
  rintro e w13 ⟨v838, v841, rfl, ho0, ho1, hb⟩
  refine ⟨_, rfl, ?_⟩
  have n0_ := Aside0.mk (Kd.R_lower ho0 (below_size (gB HB.out)))
  have n1_ := Aside0.mk (Kd.R_lower ho1 (below_size (gB HB.out)))
  have n2_ := Aside0.mk (blk_below (gK BK832.out) hb)
  have n3_ := Aside0.mk (blk_below (gK BK833.out) hb)
  have n4_ := Aside0.mk (below_step (gB HB.out) hb)
  clear BK832
  clear BK833
  clear HB
  have HO839 := n0_
  have HO842 := n1_
  have BK832 := n2_
  have BK833 := n3_
  have HB := n4_
  clear n0_ n1_ n2_ n3_ n4_
  (try clear hb)
  (try clear hb2)
  (try clear hk)
  (try clear hi)
  (try clear ho0)
  (try clear ho1)
  refine hK.out _ _ ⟨cz_ BK832.out 0 rfl, cz_ BK832.out 1 rfl, cz_ BK832.out 2 rfl, cz_ BK832.out 3 rfl⟩ (fun hHeld => ?_)
  clear hK K
  refine norm_ (a' := ?_) ?_ ?_
  rotate_left
  ·show Act.put _ (some 8) _ = _
   simp only [Act.put, eA_, e0_, eS_, i64_w, i32_w]
   rfl
  refine one_ (i := 3) (N := some 10) (bv 9 63) rfl rfl (one_of HT_.out (by kernel_rfl)) (by decide) (fun K hK => ?_)
  refine goes_ Try.func78 (by kernel_rfl) rfl #[.agg #[.int .i64 a0_0, .int .i64 a0_1, .slice A0_2 l0_2.length c0_2, .slice A0_3 l0_3.length c0_3]] (by rfl) rfl rfl (by (try simp only [List.map_toArray, List.map_cons, List.map_nil]); first | done | rfl | (simp only [List.length_drop, List.length_take]; rfl)) ?_
  with_reducible refine (impl_Plan_count.calls a0_0 a0_1 _ _ l0_2 _ _ l0_3 t843 _ ?side1 ?side2 ?side3 ?side4 A5.out).mono ?_
  (case side1 => exact gC (Kd.C_below HR0_2.out HB.out))
  (case side2 => exact HC0_2.out)
  (case side3 => exact gC (Kd.C_below HR0_3.out HB.out))
  (case side4 => exact HC0_3.out)
  rintro e w14 ⟨rfl, hb⟩
  refine ⟨_, rfl, ?_⟩
  have n0_ := Aside0.mk (Kd.R_below (gR HO839.out) hb)
  have n1_ := Aside0.mk (Kd.R_below (gR HO842.out) hb)
  have n2_ := Aside0.mk (blk_below (gK BK832.out) hb)
  have n3_ := Aside0.mk (blk_below (gK BK833.out) hb)
  have n4_ := Aside0.mk (below_step (gB HB.out) hb)
  clear HO839
  clear HO842
  clear BK832
  clear BK833
  clear HB
  have HO839 := n0_
  have HO842 := n1_
  have BK832 := n2_
  have BK833 := n3_
  have HB := n4_
  clear n0_ n1_ n2_ n3_ n4_
  (try clear hb)
  (try clear hb2)
  (try clear hk)
  (try clear hi)
  refine hK.out _ _ ⟨cz_ BK832.out 0 rfl, cz_ BK832.out 1 rfl, cz_ BK832.out 2 rfl, cz_ BK832.out 3 rfl⟩ (fun hHeld => ?_)
  clear hK K
  refine norm_ (a' := ?_) ?_ ?_
  rotate_left
  ·show Act.put _ (some 10) _ = _
   simp only [Act.put, eA_, e0_, eS_, i64_w, i32_w]
   rfl
  refine one_ (i := 6) (N := some 13) (bv 9 127) rfl rfl (one_of HT_.out (by kernel_rfl)) (by decide) (fun K hK => ?_)
  refine goes_ Try.func92 (by kernel_rfl) rfl #[.int .i64 t843, .int .i64 a0_1] (by rfl) rfl rfl (by (try simp only [List.map_toArray, List.map_cons, List.map_nil]); first | done | rfl | (simp only [List.length_drop, List.length_take]; rfl)) ?_
  with_reducible refine (impl_SolverNew.calls t843 a0_1 t844 t845 t846 _ A6.out).mono ?_
  rintro e w15 ⟨v847, rfl, ho0, hb⟩
  refine ⟨_, rfl, ?_⟩
  have n0_ := Aside0.mk (Kd.R_below (gR HO839.out) hb)
  have n1_ := Aside0.mk (Kd.R_below (gR HO842.out) hb)
  have n2_ := Aside0.mk (Kd.S_lower (Kd.S_new' (Kd.S_new' ho0 (Kd.R_lt (gR HO839.out))) (Kd.R_lt (gR HO842.out))) (below_size (gB HB.out)))
  have n3_ := Aside0.mk (blk_below (gK BK832.out) hb)
  have n4_ := Aside0.mk (blk_below (gK BK833.out) hb)
  have n5_ := Aside0.mk (below_step (gB HB.out) hb)
  clear HO839
  clear HO842
  clear BK832
  clear BK833
  clear HB
  have HO839 := n0_
  have HO842 := n1_
  have HO848 := n2_
  have BK832 := n3_
  have BK833 := n4_
  have HB := n5_
  clear n0_ n1_ n2_ n3_ n4_ n5_
  (try clear hb)
  (try clear hb2)
  (try clear hk)
  (try clear hi)
  (try clear ho0)
  obtain ⟨Ao16, co16, eo16⟩ := Kd.S_slice HO848.out
  (first | subst eo16 | (injection eo16 with f1_ f2_ f3_; have f4_ := f1_.symm; have f5_ := f3_.symm; clear f1_ f2_ f3_; subst f4_; subst f5_))
  obtain ⟨Ao17, co17, eo17⟩ := Kd.R_slice HO842.out
  (first | subst eo17 | (injection eo17 with f1_ f2_ f3_; have f4_ := f1_.symm; have f5_ := f3_.symm; clear f1_ f2_ f3_; subst f4_; subst f5_))
  obtain ⟨Ao18, co18, eo18⟩ := Kd.R_slice HO839.out
  (first | subst eo18 | (injection eo18 with f1_ f2_ f3_; have f4_ := f1_.symm; have f5_ := f3_.symm; clear f1_ f2_ f3_; subst f4_; subst f5_))
  refine hK.out _ _ ⟨cz_ BK832.out 0 rfl, cz_ BK832.out 1 rfl, cz_ BK832.out 2 rfl, cz_ BK832.out 3 rfl⟩ (fun hHeld => ?_)
  clear hK K
  refine norm_ (a' := ?_) ?_ ?_
  rotate_left
  ·show Act.put _ (some 13) _ = _
   simp only [Act.put, eA_, e0_, eS_, i64_w, i32_w]
   rfl
  refine pu_ 7 (some 14) (bv 9 255) rfl rfl (any_of HT_.out (by kernel_rfl)) (fun _ _ _ h => h) (by rfl) (fun w' => by go_simp; with_reducible rfl) (by simp only [Act.put, eA_, e0_, eS_, i64_w, i32_w]; rfl) ?_
  refine one_ (i := 8) (N := none) (bv 9 511) rfl rfl (one_of HT_.out (by kernel_rfl)) (by decide) (fun K hK => ?_)
  have hs19 : w15.cell? ⟨gb833, 0, none⟩ = some (.int .i64 0) := cz_ BK833.out 0 rfl
  have hfs19 := blk_frozen BK833.out 0
  have hns19_0 := NB832_833.out
  have hms19_0 := NB833_832.out
  have hs20 : w15.cell? ⟨gb833, 1, none⟩ = some (.int .i64 0) := cz_ BK833.out 1 rfl
  have hfs20 := blk_frozen BK833.out 1
  have hns20_0 := NB832_833.out
  have hms20_0 := NB833_832.out
  have hs21 : w15.cell? ⟨gb833, 2, none⟩ = some (.slice none 0 0) := cz_ BK833.out 2 rfl
  have hfs21 := blk_frozen BK833.out 2
  have hns21_0 := NB832_833.out
  have hms21_0 := NB833_832.out
  have hs22 : w15.cell? ⟨gb833, 3, none⟩ = some (.slice none 0 0) := cz_ BK833.out 3 rfl
  have hfs22 := blk_frozen BK833.out 3
  have hns22_0 := NB832_833.out
  have hms22_0 := NB833_832.out
  have hs23 : w15.cell? ⟨gb833, 4, none⟩ = some (.int .i64 0) := cz_ BK833.out 4 rfl
  have hfs23 := blk_frozen BK833.out 4
  have hns23_0 := NB832_833.out
  have hms23_0 := NB833_832.out
  have hs24 : w15.cell? ⟨gb833, 5, none⟩ = some (.int .i64 0) := cz_ BK833.out 5 rfl
  have hfs24 := blk_frozen BK833.out 5
  have hns24_0 := NB832_833.out
  have hms24_0 := NB833_832.out
  have hs25 : w15.cell? ⟨gb833, 6, none⟩ = some (.slice none 0 0) := cz_ BK833.out 6 rfl
  have hfs25 := blk_frozen BK833.out 6
  have hns25_0 := NB832_833.out
  have hms25_0 := NB833_832.out
  refine skip_ (w1 := ?_) (by rfl) rfl ?_ ?_
  rotate_left
  ·go_simp
   rfl
  refine hK.out _ _ ⟨((cell_far (p := ⟨gb833, _, none⟩) NB832_833.out _).trans (((cell_far (p := ⟨gb833, _, none⟩) NB832_833.out _).trans (((cell_far (p := ⟨gb833, _, none⟩) NB832_833.out _).trans (((cell_far (p := ⟨gb833, _, none⟩) NB832_833.out _).trans (((cell_far (p := ⟨gb833, _, none⟩) NB832_833.out _).trans (((cell_far (p := ⟨gb833, _, none⟩) NB832_833.out _).trans (((cell_far (p := ⟨gb833, _, none⟩) NB832_833.out _).trans (hHeld.1)))))))))))))), ((cell_far (p := ⟨gb833, _, none⟩) NB832_833.out _).trans (((cell_far (p := ⟨gb833, _, none⟩) NB832_833.out _).trans (((cell_far (p := ⟨gb833, _, none⟩) NB832_833.out _).trans (((cell_far (p := ⟨gb833, _, none⟩) NB832_833.out _).trans (((cell_far (p := ⟨gb833, _, none⟩) NB832_833.out _).trans (((cell_far (p := ⟨gb833, _, none⟩) NB832_833.out _).trans (((cell_far (p := ⟨gb833, _, none⟩) NB832_833.out _).trans (hHeld.2.1)))))))))))))), ((cell_far (p := ⟨gb833, _, none⟩) NB832_833.out _).trans (((cell_far (p := ⟨gb833, _, none⟩) NB832_833.out _).trans (((cell_far (p := ⟨gb833, _, none⟩) NB832_833.out _).trans (((cell_far (p := ⟨gb833, _, none⟩) NB832_833.out _).trans (((cell_far (p := ⟨gb833, _, none⟩) NB832_833.out _).trans (((cell_far (p := ⟨gb833, _, none⟩) NB832_833.out _).trans (((cell_far (p := ⟨gb833, _, none⟩) NB832_833.out _).trans (hHeld.2.2.1)))))))))))))), ((cell_far (p := ⟨gb833, _, none⟩) NB832_833.out _).trans (((cell_far (p := ⟨gb833, _, none⟩) NB832_833.out _).trans (((cell_far (p := ⟨gb833, _, none⟩) NB832_833.out _).trans (((cell_far (p := ⟨gb833, _, none⟩) NB832_833.out _).trans (((cell_far (p := ⟨gb833, _, none⟩) NB832_833.out _).trans (((cell_far (p := ⟨gb833, _, none⟩) NB832_833.out _).trans (((cell_far (p := ⟨gb833, _, none⟩) NB832_833.out _).trans (hHeld.2.2.2))))))))))))))⟩ (fun hHeld => ?_)
  clear hK K
  refine done_ (done_of HT_.out (by kernel_rfl)) ?_
  try go_wp2
  refine bodyPost_ret (results_cell_row rfl _ _ gb833 61 #[.int .i64 t835, .int .i64 t836, .slice Ao18 t837.length co18, .slice Ao17 t840.length co17, .int .i64 t844, .int .i64 t845, .slice Ao16 t846.length co16] (0, 0) _ rfl (by (with_reducible repeat (first | refine blk_drewN ?_ _ | refine blk_drew ?_ | refine blk_alloc ?_ _)); refine blk_put (cs := #[.int .i64 t835, .int .i64 t836, .slice Ao18 t837.length co18, .slice Ao17 t840.length co17, .int .i64 t844, .int .i64 t845, .slice none 0 0]) ?_ 6 _ rfl; (with_reducible repeat (first | refine blk_drewN ?_ _ | refine blk_drew ?_ | refine blk_alloc ?_ _)); refine blk_put (cs := #[.int .i64 t835, .int .i64 t836, .slice Ao18 t837.length co18, .slice Ao17 t840.length co17, .int .i64 t844, .int .i64 0, .slice none 0 0]) ?_ 5 _ rfl; (with_reducible repeat (first | refine blk_drewN ?_ _ | refine blk_drew ?_ | refine blk_alloc ?_ _)); refine blk_put (cs := #[.int .i64 t835, .int .i64 t836, .slice Ao18 t837.length co18, .slice Ao17 t840.length co17, .int .i64 0, .int .i64 0, .slice none 0 0]) ?_ 4 _ rfl; (with_reducible repeat (first | refine blk_drewN ?_ _ | refine blk_drew ?_ | refine blk_alloc ?_ _)); refine blk_put (cs := #[.int .i64 t835, .int .i64 t836, .slice Ao18 t837.length co18, .slice none 0 0, .int .i64 0, .int .i64 0, .slice none 0 0]) ?_ 3 _ rfl; (with_reducible repeat (first | refine blk_drewN ?_ _ | refine blk_drew ?_ | refine blk_alloc ?_ _)); refine blk_put (cs := #[.int .i64 t835, .int .i64 t836, .slice none 0 0, .slice none 0 0, .int .i64 0, .int .i64 0, .slice none 0 0]) ?_ 2 _ rfl; (with_reducible repeat (first | refine blk_drewN ?_ _ | refine blk_drew ?_ | refine blk_alloc ?_ _)); refine blk_put (cs := #[.int .i64 t835, .int .i64 0, .slice none 0 0, .slice none 0 0, .int .i64 0, .int .i64 0, .slice none 0 0]) ?_ 1 _ rfl; (with_reducible repeat (first | refine blk_drewN ?_ _ | refine blk_drew ?_ | refine blk_alloc ?_ _)); refine blk_put (cs := #[.int .i64 0, .int .i64 0, .slice none 0 0, .slice none 0 0, .int .i64 0, .int .i64 0, .slice none 0 0]) ?_ 0 _ rfl; (with_reducible repeat (first | refine blk_drewN ?_ _ | refine blk_drew ?_ | refine blk_alloc ?_ _)); exact BK833.out) Try.underlying61 rfl (by kernel_rfl)) rfl ?_
  exact ⟨_, _, _, by first | rfl | (simp [errW_none, errW_some] <;> rfl) | (simp [*, errW_none, errW_some] <;> rfl), by (with_reducible repeat (first | apply Kd.R_alloc | apply Kd.R_drewN | apply Kd.R_drew)); exact Kd.R_mono (Kd.R_far (p := ⟨gb833, 6, none⟩) (Kd.R_far (p := ⟨gb833, 5, none⟩) (Kd.R_far (p := ⟨gb833, 4, none⟩) (Kd.R_far (p := ⟨gb833, 3, none⟩) (Kd.R_far (p := ⟨gb833, 2, none⟩) (Kd.R_far (p := ⟨gb833, 1, none⟩) (Kd.R_far (p := ⟨gb833, 0, none⟩) (Kd.R_types HO839.out BK833.out (by decide)) (fun _ hk => hk.2) (.int .i64 t835)) (fun _ hk => hk.2) (.int .i64 t836)) (fun _ hk => hk.2) (.slice Ao18 t837.length co18)) (fun _ hk => hk.2) (.slice Ao17 t840.length co17)) (fun _ hk => hk.2) (.int .i64 t844)) (fun _ hk => hk.2) (.int .i64 t845)) (fun _ hk => hk.2) (.slice Ao16 t846.length co16)) (fun _ hk => hk.1), by (with_reducible repeat (first | apply Kd.R_alloc | apply Kd.R_drewN | apply Kd.R_drew)); exact Kd.R_mono (Kd.R_far (p := ⟨gb833, 6, none⟩) (Kd.R_far (p := ⟨gb833, 5, none⟩) (Kd.R_far (p := ⟨gb833, 4, none⟩) (Kd.R_far (p := ⟨gb833, 3, none⟩) (Kd.R_far (p := ⟨gb833, 2, none⟩) (Kd.R_far (p := ⟨gb833, 1, none⟩) (Kd.R_far (p := ⟨gb833, 0, none⟩) (Kd.R_types HO842.out BK833.out (by decide)) (fun _ hk => hk.2) (.int .i64 t835)) (fun _ hk => hk.2) (.int .i64 t836)) (fun _ hk => hk.2) (.slice Ao18 t837.length co18)) (fun _ hk => hk.2) (.slice Ao17 t840.length co17)) (fun _ hk => hk.2) (.int .i64 t844)) (fun _ hk => hk.2) (.int .i64 t845)) (fun _ hk => hk.2) (.slice Ao16 t846.length co16)) (fun _ hk => hk.1), by (with_reducible repeat (first | apply Kd.S_alloc | apply Kd.S_drewN | apply Kd.S_drew)); exact Kd.S_mono (Kd.S_far (p := ⟨gb833, 6, none⟩) (Kd.S_far (p := ⟨gb833, 5, none⟩) (Kd.S_far (p := ⟨gb833, 4, none⟩) (Kd.S_far (p := ⟨gb833, 3, none⟩) (Kd.S_far (p := ⟨gb833, 2, none⟩) (Kd.S_far (p := ⟨gb833, 1, none⟩) (Kd.S_far (p := ⟨gb833, 0, none⟩) (Kd.S_types HO848.out BK833.out (by decide)) (fun _ hk => hk.2) (.int .i64 t835)) (fun _ hk => hk.2) (.int .i64 t836)) (fun _ hk => hk.2) (.slice Ao18 t837.length co18)) (fun _ hk => hk.2) (.slice Ao17 t840.length co17)) (fun _ hk => hk.2) (.int .i64 t844)) (fun _ hk => hk.2) (.int .i64 t845)) (fun _ hk => hk.2) (.slice Ao16 t846.length co16)) (fun _ hk => ⟨hk.1.1.2, hk.1.2⟩), by repeat (first | (with_reducible first | exact HB.out | apply below_alloc | apply pw_below_drewN | apply below_drew1 | refine below_set ?_ GE832.out | refine below_set ?_ GE833.out) | exact HB.out)⟩
 ·replace c3 := Bool.eq_false_iff.mpr c3
  subst c3
  have H1 : (some (0, 0, ([] : List Int), ([] : List Int), 0, 0, ([] : List (S84)))) = some (r1, r2, r3, r4, r5, r6, r7) := by rw [if_neg (show ¬ (false = true) by decide)] at H; exact H
  clear H
  have H := H1
  clear H1
  simp only [Option.some.injEq, Prod.mk.injEq] at H
  obtain ⟨rfl, rfl, rfl, rfl, rfl, rfl, rfl⟩ := H
  go_enter Try.func46, Try.ntmps46
  go_wp2_with (first | ((with_reducible refine gate_dst (N := 1) rfl ?_); refine box_event ?hg (N := 1) ?hd (cs := #[.int .i64 a0_0, .int .i64 a0_1, .slice A0_2 l0_2.length c0_2, .slice A0_3 l0_3.length c0_3]) (t := 46) ?hr ?_; (case hd => rfl); (case hg => rfl); (case hr => first | (go_simp; done) | (go_simp; rfl)); intro gb832 hg w26 hbox hb; have n0_ := Aside0.mk (below_step (gB HB.out) hb); have n1_ := Aside0.mk (hbox); have n2_ := Aside0.mk ((by rw [hg]; exact (below_size (gB HB.out)) : w.heap.size ≤ gb832)); have n3_ := n2_; clear HB; have HB := n0_; have BK832 := n1_; have GW832 := n2_; have GE832 := n3_; clear n0_ n1_ n2_ n3_; clear hb hbox hg) | ((with_reducible refine gate_dst (N := 2) rfl ?_); refine box_event ?hg (N := 2) ?hd (cs := #[.int .i64 0, .int .i64 0, .slice none 0 0, .slice none 0 0, .int .i64 0, .int .i64 0, .slice none 0 0]) (t := 61) ?hr ?_; (case hd => rfl); (case hg => rfl); (case hr => first | (go_simp; done) | (go_simp; rfl)); intro gb833 hg w27 hbox hb; have n0_ := Aside0.mk (blk_below (gK BK832.out) hb); have n1_ := Aside0.mk (below_step (gB HB.out) hb); have n2_ := Aside0.mk (hbox); have n3_ := Aside0.mk ((by rw [hg]; exact (below_size (gB HB.out)) : w.heap.size ≤ gb833)); have n4_ := n3_; have n5_ := Aside0.mk ((by rw [hg]; exact Nat.ne_of_lt (blk_lt (gK BK832.out)) : gb832 ≠ gb833)); have n6_ := Aside0.mk ((by rw [hg]; exact Nat.ne_of_gt (blk_lt (gK BK832.out)) : gb833 ≠ gb832)); clear BK832; clear HB; have BK832 := n0_; have HB := n1_; have BK833 := n2_; have GW833 := n3_; have GE833 := n4_; have NB832_833 := n5_; have NB833_832 := n6_; clear n0_ n1_ n2_ n3_ n4_ n5_ n6_; clear hb hbox hg; have hnb28 := NB832_833.out; have hnc28 := NB833_832.out; have hcz29_0 := cz_ BK832.out 0 rfl; have hcz29_1 := cz_ BK832.out 1 rfl; have hcz29_2 := cz_ BK832.out 2 rfl; have hcz29_3 := cz_ BK832.out 3 rfl; have hfz29_0 := blk_frozen BK832.out 0; have hfz29_1 := blk_frozen BK832.out 1; have hfz29_2 := blk_frozen BK832.out 2; have hfz29_3 := blk_frozen BK832.out 3) | ((with_reducible refine gate_callee (f := 76) rfl ?_); refine goesL_ (some 4) rfl rfl Try.func76 (by kernel_rfl) rfl #[.agg #[.int .i64 a0_0, .int .i64 a0_1, .slice A0_2 l0_2.length c0_2, .slice A0_3 l0_3.length c0_3]] rfl (by (try simp only [List.map_toArray, List.map_cons, List.map_nil]); first | done | rfl | (simp only [List.length_drop, List.length_take]; rfl)) ?_; (with_reducible refine (impl_PlanOk.calls k a0_0 a0_1 _ _ l0_2 _ _ l0_3 false _ ?side1 ?side2 ?side3 ?side4 A2.out).mono ?_); (case side1 => exact gC (Kd.C_below HR0_2.out HB.out)); (case side2 => exact HC0_2.out); (case side3 => exact gC (Kd.C_below HR0_3.out HB.out)); (case side4 => exact HC0_3.out); rintro e w30 ⟨rfl, hb⟩; refine ⟨_, rfl, ?_⟩; have n0_ := Aside0.mk (blk_below (gK BK832.out) hb); have n1_ := Aside0.mk (blk_below (gK BK833.out) hb); have n2_ := Aside0.mk (below_step (gB HB.out) hb); clear BK832; clear BK833; clear HB; have BK832 := n0_; have BK833 := n1_; have HB := n2_; clear n0_ n1_ n2_; (try clear hb); (try clear hb2); (try clear hk); (try clear hi); have hcz31_0 := cz_ BK833.out 0 rfl; have hcz31_1 := cz_ BK833.out 1 rfl; have hcz31_2 := cz_ BK833.out 2 rfl; have hcz31_3 := cz_ BK833.out 3 rfl; have hcz31_4 := cz_ BK833.out 4 rfl; have hcz31_5 := cz_ BK833.out 5 rfl; have hcz31_6 := cz_ BK833.out 6 rfl; have hfz31_0 := blk_frozen BK833.out 0; have hfz31_1 := blk_frozen BK833.out 1; have hfz31_2 := blk_frozen BK833.out 2; have hfz31_3 := blk_frozen BK833.out 3; have hfz31_4 := blk_frozen BK833.out 4; have hfz31_5 := blk_frozen BK833.out 5; have hfz31_6 := blk_frozen BK833.out 6))
  refine bodyPost_ret (results_cell_row rfl _ _ gb833 61 #[.int .i64 0, .int .i64 0, .slice none 0 0, .slice none 0 0, .int .i64 0, .int .i64 0, .slice none 0 0] (0, 0) _ rfl (by (with_reducible repeat (first | refine blk_drewN ?_ _ | refine blk_drew ?_ | refine blk_alloc ?_ _)); refine blk_put (cs := #[.int .i64 0, .int .i64 0, .slice none 0 0, .slice none 0 0, .int .i64 0, .int .i64 0, .slice none 0 0]) ?_ 6 _ rfl; (with_reducible repeat (first | refine blk_drewN ?_ _ | refine blk_drew ?_ | refine blk_alloc ?_ _)); refine blk_put (cs := #[.int .i64 0, .int .i64 0, .slice none 0 0, .slice none 0 0, .int .i64 0, .int .i64 0, .slice none 0 0]) ?_ 5 _ rfl; (with_reducible repeat (first | refine blk_drewN ?_ _ | refine blk_drew ?_ | refine blk_alloc ?_ _)); refine blk_put (cs := #[.int .i64 0, .int .i64 0, .slice none 0 0, .slice none 0 0, .int .i64 0, .int .i64 0, .slice none 0 0]) ?_ 4 _ rfl; (with_reducible repeat (first | refine blk_drewN ?_ _ | refine blk_drew ?_ | refine blk_alloc ?_ _)); refine blk_put (cs := #[.int .i64 0, .int .i64 0, .slice none 0 0, .slice none 0 0, .int .i64 0, .int .i64 0, .slice none 0 0]) ?_ 3 _ rfl; (with_reducible repeat (first | refine blk_drewN ?_ _ | refine blk_drew ?_ | refine blk_alloc ?_ _)); refine blk_put (cs := #[.int .i64 0, .int .i64 0, .slice none 0 0, .slice none 0 0, .int .i64 0, .int .i64 0, .slice none 0 0]) ?_ 2 _ rfl; (with_reducible repeat (first | refine blk_drewN ?_ _ | refine blk_drew ?_ | refine blk_alloc ?_ _)); refine blk_put (cs := #[.int .i64 0, .int .i64 0, .slice none 0 0, .slice none 0 0, .int .i64 0, .int .i64 0, .slice none 0 0]) ?_ 1 _ rfl; (with_reducible repeat (first | refine blk_drewN ?_ _ | refine blk_drew ?_ | refine blk_alloc ?_ _)); refine blk_put (cs := #[.int .i64 0, .int .i64 0, .slice none 0 0, .slice none 0 0, .int .i64 0, .int .i64 0, .slice none 0 0]) ?_ 0 _ rfl; (with_reducible repeat (first | refine blk_drewN ?_ _ | refine blk_drew ?_ | refine blk_alloc ?_ _)); exact BK833.out) Try.underlying61 rfl (by kernel_rfl)) rfl ?_
  exact ⟨_, _, _, by first | rfl | (simp [errW_none, errW_some] <;> rfl) | (simp [*, errW_none, errW_some] <;> rfl), by first | exact Kd.R_nil _ _ _ _ _ | exact Kd.N_nil _ _ _ _ _ | exact Kd.V_nil _ _ _ _ _ | exact Kd.Q_nil _ _ _ _ _ | exact Kd.S_nil _ _ _ _ _, by first | exact Kd.R_nil _ _ _ _ _ | exact Kd.N_nil _ _ _ _ _ | exact Kd.V_nil _ _ _ _ _ | exact Kd.Q_nil _ _ _ _ _ | exact Kd.S_nil _ _ _ _ _, by first | exact Kd.S_nil _ _ _ _ _ | exact Kd.N_nil _ _ _ _ _ | exact Kd.V_nil _ _ _ _ _ | exact Kd.Q_nil _ _ _ _ _ | exact Kd.R_nil _ _ _ _ _, by repeat (first | (with_reducible first | exact HB.out | apply below_alloc | apply pw_below_drewN | apply below_drew1 | refine below_set ?_ GE832.out | refine below_set ?_ GE833.out) | exact HB.out)⟩

/-! ### laws_markEqS: function 107 (by hand) -/
/-- Marked: a row without elements (the only one that the laws of this seat hand over). -/
def laws_markEqS.f (l0 : List S84) (a1 : Int) : Option (Int) := if l0.length = 0 then (some a1) else (none)
theorem laws_markEqS.calls (A0 : Option Addr) (c0 : Nat) (l0 : List S84) (a1 : Int) (r : Int) (w : World) (hr0 : Kd.C k84 w A0 l0.length l0) (hc0 : l0.length ≤ c0) (h : laws_markEqS.f l0 a1 = some r) :
 Calls Try.prog 107 #[.slice A0 l0.length c0, .int .i64 a1] w fun e w' => e = .returned (.int .i64 r) ∧ Drawn0 w w' := by
 have hl : l0.length = 0 ∧ a1 = r := by
  unfold laws_markEqS.f at h
  split at h
  ·exact ⟨by assumption, Option.some.inj h⟩
  ·cases h
 obtain ⟨hl, rfl⟩ := hl
 rw [hl]
 clear hr0 hc0 h hl
 go_enter Try.func107, Try.ntmps107
 go_wp2
 go_loop [1, 5] (fun v i => v = .int .i64 a1 ∧ i = .int .i64 0) (fun _ _ => 0)
 case atStart => exact ⟨rfl, rfl⟩
 case round =>
  obtain ⟨rfl, rfl⟩ := hrel
  go_wp2
  go_ret
  exact ⟨rfl, by repeat (first | exact Drawn0.refl _ | apply Drawn0.step)⟩

/-! ### laws_markSolver: function 93 -/
def laws_markSolver.f (a0_0 : Int) (a0_1 : Int) (l0_2 : List (S84)) (a1 : Int) : Option (Int) := (laws_markEqS.f l0_2 a1).bind fun t854 => (some t854)
set_option maxHeartbeats 8000000 in
set_option maxRecDepth 100000 in
theorem laws_markSolver.calls (a0_0 : Int) (a0_1 : Int) (A0_2 : Option Addr) (c0_2 : Nat) (l0_2 : List (S84)) (a1 : Int) (r : Int) (w : World) (hr0_2 : Kd.C k84 w A0_2 l0_2.length l0_2) (hc0_2 : l0_2.length ≤ c0_2) (h : laws_markSolver.f a0_0 a0_1 l0_2 a1 = some r) :
 Calls Try.prog 93 #[.agg #[.int .i64 a0_0, .int .i64 a0_1, .slice A0_2 l0_2.length c0_2], .int .i64 a1] w fun e w' => e = .returned (.int .i64 r) ∧ Below w.heap.size w w' := by
 have hu37 := Try.underlying37
 have HR0_2 := Aside0.mk hr0_2
 have HC0_2 := Aside0.mk hc0_2
 clear hr0_2 hc0_2
 have HB := Aside0.mk (Below.refl w.heap.size w)
 have H : ((laws_markEqS.f l0_2 a1).bind fun t854 => (some t854)) = some r := h
 clear h
 replace H := bI_ H
 obtain ⟨t854, A30, H⟩ := H
 replace H : (some t854) = some r := H
 have A3 := Aside0.mk A30
 clear A30
 obtain rfl := Option.some.inj H
 go_enter Try.func93, Try.ntmps93
 go_wp2_with (first | ((with_reducible refine gate_dst (N := 2) rfl ?_); refine box_event ?hg (N := 2) ?hd (cs := #[.int .i64 a0_0, .int .i64 a0_1, .slice A0_2 l0_2.length c0_2]) (t := 37) ?hr ?_; (case hd => rfl); (case hg => rfl); (case hr => first | (go_simp; done) | (go_simp; rfl)); intro gb853 hg w4 hbox hb; have n0_ := Aside0.mk (below_step (gB HB.out) hb); have n1_ := Aside0.mk (hbox); have n2_ := Aside0.mk ((by rw [hg]; exact (below_size (gB HB.out)) : w.heap.size ≤ gb853)); have n3_ := n2_; clear HB; have HB := n0_; have BK853 := n1_; have GW853 := n2_; have GE853 := n3_; clear n0_ n1_ n2_ n3_; clear hb hbox hg; have hcz5_0 := cz_ BK853.out 0 rfl; have hcz5_1 := cz_ BK853.out 1 rfl; have hcz5_2 := cz_ BK853.out 2 rfl; have hfz5_0 := blk_frozen BK853.out 0; have hfz5_1 := blk_frozen BK853.out 1; have hfz5_2 := blk_frozen BK853.out 2) | ((with_reducible refine gate_callee (f := 107) rfl ?_); refine goesL_ (some 8) rfl rfl Try.func107 (by kernel_rfl) rfl #[.slice A0_2 l0_2.length c0_2, .int .i64 a1] rfl (by (try simp only [List.map_toArray, List.map_cons, List.map_nil]); first | done | rfl | (simp only [List.length_drop, List.length_take]; rfl)) ?_; (with_reducible refine (laws_markEqS.calls _ _ l0_2 a1 t854 _ ?side1 ?side2 A3.out).mono ?_); (case side1 => exact gC (Kd.C_below HR0_2.out HB.out)); (case side2 => exact HC0_2.out); rintro e w' ⟨rfl, ⟨nd, rfl⟩⟩; refine ⟨_, rfl, ?_⟩))
 go_ret
 exact ⟨by first | rfl | (simp [errW_none, errW_some] <;> rfl) | (simp [*, errW_none, errW_some] <;> rfl), by repeat (first | (with_reducible first | exact HB.out | apply below_alloc | apply pw_below_drewN | apply below_drew1 | refine below_set ?_ GE853.out) | exact HB.out)⟩

/-! ### laws_markGetting: function 48 -/
def laws_markGetting.f (k : Nat) (a0_0 : Int) (a0_1 : Int) (l0_2 : List Int) (l0_3 : List Int) (a0_4 : Int) (a0_5 : Int) (l0_6 : List (S84)) (a1 : Int) : Option (Int × List Int × List Int) := (laws_markPlan.f k a0_0 a0_1 l0_2 l0_3 a1).bind fun bt856 => ((laws_markSolver.f a0_4 a0_5 l0_6 bt856.1).bind fun t859 => (some (t859, bt856.2.1, bt856.2.2)))
theorem laws_markGetting.mono : ∀ a0 a1 a2 a3 a4 a5 a6 a7 k, LeO (laws_markGetting.f k a0 a1 a2 a3 a4 a5 a6 a7) (laws_markGetting.f (k + 1) a0 a1 a2 a3 a4 a5 a6 a7) := by
 intro a0 a1 a2 a3 a4 a5 a6 a7 k
 unfold laws_markGetting.f
 repeat' first
  | (with_reducible exact laws_markPlan.mono _ _ _ _ _ _)
  | (with_reducible exact LeO.refl _)
  | (with_reducible exact LeO.none _)
  | (with_reducible refine LeO.ite ?_ ?_)
  | (with_reducible refine LeO.bind ?_ (fun _ => ?_))
  | exact laws_markPlan.mono _ _ _ _ _ _
  | exact LeO.none _
  | refine LeO.ite ?_ ?_
  | refine LeO.bind ?_ (fun _ => ?_)
set_option maxHeartbeats 8000000 in
set_option maxRecDepth 100000 in
theorem laws_markGetting.calls (k : Nat) (a0_0 : Int) (a0_1 : Int) (P0_2_ : Nat → Prop) (u9000_ : Value) (l0_2 : List Int) (P0_3_ : Nat → Prop) (u9001_ : Value) (l0_3 : List Int) (a0_4 : Int) (a0_5 : Int) (A0_6 : Option Addr) (c0_6 : Nat) (l0_6 : List (S84)) (a1 : Int) (r1 : Int) (r2 : List Int) (r3 : List Int) (w0 w : World) (hB : Below w0.heap.size w0 w) (ho0_2 : Kd.R (Kd.int .i64) 3 w w0.heap.size P0_2_ u9000_ l0_2) (hp0_2_0_3 : ∀ k_, P0_2_ k_ → ¬ P0_3_ k_) (ho0_3 : Kd.R (Kd.int .i64) 3 w w0.heap.size P0_3_ u9001_ l0_3) (hp0_3_0_2 : ∀ k_, P0_3_ k_ → ¬ P0_2_ k_) (hr0_6 : ∀ W_, Kept w W_ (fun k_ => P0_2_ k_ ∨ P0_3_ k_) → Kd.C k84 W_ A0_6 l0_6.length l0_6) (hc0_6 : l0_6.length ≤ c0_6) (h : laws_markGetting.f k a0_0 a0_1 l0_2 l0_3 a0_4 a0_5 l0_6 a1 = some (r1, r2, r3)) :
 Calls Try.prog 48 #[.agg #[.int .i64 a0_0, .int .i64 a0_1, u9000_, u9001_, .int .i64 a0_4, .int .i64 a0_5, .slice A0_6 l0_6.length c0_6], .int .i64 a1] w fun e w' => e = .returned (.int .i64 r1) ∧ Kd.R (Kd.int .i64) 3 w' w0.heap.size (fun k_ => ((P0_2_ k_ ∨ P0_3_ k_) ∨ w.heap.size ≤ k_)) u9000_ r2 ∧ Kd.R (Kd.int .i64) 3 w' w0.heap.size (fun k_ => ((P0_2_ k_ ∨ P0_3_ k_) ∨ w.heap.size ≤ k_)) u9001_ r3 ∧ Below w0.heap.size w0 w' ∧ Kept w w' (fun k_ => P0_2_ k_ ∨ P0_3_ k_) := by
 have hu61 := Try.underlying61
 have hu46 := Try.underlying46
 have hu37 := Try.underlying37
 have HO0_2 := Aside0.mk (show Kd.R (Kd.int .i64) 3 w w0.heap.size (fun k_ => ((P0_2_ k_ ∨ P0_3_ k_) ∨ w.heap.size ≤ k_) ∧ some k_ ≠ (u9001_ : Value).ownBlock) u9000_ l0_2 from Kd.R_mono ho0_2 (fun k_ hk => ⟨(.inl (.inl hk)), fun e_ => hp0_2_0_3 k_ hk (ho0_3.1 k_ e_.symm)⟩))
 have HO0_3 := Aside0.mk (show Kd.R (Kd.int .i64) 3 w w0.heap.size (fun k_ => ((P0_2_ k_ ∨ P0_3_ k_) ∨ w.heap.size ≤ k_) ∧ some k_ ≠ (u9000_ : Value).ownBlock) u9001_ l0_3 from Kd.R_mono ho0_3 (fun k_ hk => ⟨(.inl (.inr hk)), fun e_ => hp0_3_0_2 k_ hk (ho0_2.1 k_ e_.symm)⟩))
 have HR0_6 := Aside0.mk hr0_6
 have HC0_6 := Aside0.mk hc0_6
 clear hr0_6 hc0_6
 have HK := Aside0.mk (Kept.refl w (fun k_ => P0_2_ k_ ∨ P0_3_ k_))
 have HW0 := Aside0.mk hB.size
 have HB := Aside0.mk hB
 clear hB
 have H : ((laws_markPlan.f k a0_0 a0_1 l0_2 l0_3 a1).bind fun bt856 => ((laws_markSolver.f a0_4 a0_5 l0_6 bt856.1).bind fun t859 => (some (t859, bt856.2.1, bt856.2.2)))) = some (r1, r2, r3) := h
 clear h
 replace H := bI_ H
 obtain ⟨⟨t856, t857, t858⟩, A30, H⟩ := H
 replace H : ((laws_markSolver.f a0_4 a0_5 l0_6 t856).bind fun t859 => (some (t859, t857, t858))) = some (r1, r2, r3) := H
 have A3 := Aside0.mk A30
 clear A30
 replace H := bI_ H
 obtain ⟨t859, A40, H⟩ := H
 replace H : (some (t859, t857, t858)) = some (r1, r2, r3) := H
 have A4 := Aside0.mk A40
 clear A40
 simp only [Option.some.injEq, Prod.mk.injEq] at H
 obtain ⟨rfl, rfl, rfl⟩ := H
 obtain ⟨Ao5, co5, eo5⟩ := Kd.R_slice HO0_2.out
 subst eo5
 obtain ⟨Ao6, co6, eo6⟩ := Kd.R_slice HO0_3.out
 subst eo6
 go_enter Try.func48, Try.ntmps48
 go_wp2_with (first | ((with_reducible refine gate_dst (N := 2) rfl ?_); refine box_event ?hg (N := 2) ?hd (cs := #[.int .i64 a0_0, .int .i64 a0_1, .slice Ao5 l0_2.length co5, .slice Ao6 l0_3.length co6, .int .i64 a0_4, .int .i64 a0_5, .slice A0_6 l0_6.length c0_6]) (t := 61) ?hr ?_; (case hd => rfl); (case hg => rfl); (case hr => first | (go_simp; done) | (go_simp; rfl)); intro gb855 hg w7 hbox hb; have n0_ := Aside0.mk (Kd.R_below (gR HO0_2.out) hb); have n1_ := Aside0.mk (Kd.R_below (gR HO0_3.out) hb); have n2_ := Aside0.mk (Kept.below (S := (fun k_ => P0_2_ k_ ∨ P0_3_ k_)) (by repeat (first | (with_reducible first | exact HK.out | apply Kept.alloc | apply Kept.drewN | apply Kept.drew) | exact HK.out)) hb); have n3_ := Aside0.mk (below_step (gB HB.out) hb); have n4_ := Aside0.mk (hbox); have n5_ := Aside0.mk ((by rw [hg]; exact (by first | exact HK.out.1 | exact (show Kept w _ (fun k_ => P0_2_ k_ ∨ P0_3_ k_) from by repeat (first | (with_reducible first | exact HK.out | apply Kept.alloc | apply Kept.drewN | apply Kept.drew) | exact HK.out)).1) : w.heap.size ≤ gb855)); have n6_ := Aside0.mk ((by rw [hg]; exact (below_size (gB HB.out)) : w0.heap.size ≤ gb855)); clear HO0_2; clear HO0_3; clear HK; clear HB; have HO0_2 := n0_; have HO0_3 := n1_; have HK := n2_; have HB := n3_; have BK855 := n4_; have GW855 := n5_; have GE855 := n6_; clear n0_ n1_ n2_ n3_ n4_ n5_ n6_; clear hb hbox hg; have hcz8_0 := cz_ BK855.out 0 rfl; have hcz8_1 := cz_ BK855.out 1 rfl; have hcz8_2 := cz_ BK855.out 2 rfl; have hcz8_3 := cz_ BK855.out 3 rfl; have hcz8_4 := cz_ BK855.out 4 rfl; have hcz8_5 := cz_ BK855.out 5 rfl; have hcz8_6 := cz_ BK855.out 6 rfl; have hfz8_0 := blk_frozen BK855.out 0; have hfz8_1 := blk_frozen BK855.out 1; have hfz8_2 := blk_frozen BK855.out 2; have hfz8_3 := blk_frozen BK855.out 3; have hfz8_4 := blk_frozen BK855.out 4; have hfz8_5 := blk_frozen BK855.out 5; have hfz8_6 := blk_frozen BK855.out 6) | ((with_reducible refine gate_callee (f := 33) rfl ?_); refine goesL_ (some 8) rfl rfl Try.func33 (by kernel_rfl) rfl #[.agg #[.int .i64 a0_0, .int .i64 a0_1, .slice Ao5 l0_2.length co5, .slice Ao6 l0_3.length co6], .int .i64 a1] rfl (by (try simp only [List.map_toArray, List.map_cons, List.map_nil]); first | done | rfl | (simp only [List.length_drop, List.length_take]; rfl)) ?_; (with_reducible refine (laws_markPlan.calls k a0_0 a0_1 (fun k_ => some k_ = (.slice Ao5 l0_2.length co5 : Value).ownBlock) (.slice Ao5 l0_2.length co5) l0_2 (fun k_ => some k_ = (.slice Ao6 l0_3.length co6 : Value).ownBlock) (.slice Ao6 l0_3.length co6) l0_3 a1 t856 t857 t858 w0 _ ?side1 ?side2 ?side3 ?side4 ?side5 A3.out).mono ?_); (case side1 => repeat (first | (with_reducible first | exact HB.out | apply below_alloc | apply pw_below_drewN | apply below_drew1 | refine below_set ?_ GE855.out) | exact HB.out)); (case side2 => exact Kd.R_tight rfl HO0_2.out); (case side3 => exact fun k_ e_ => (HO0_2.out.1 k_ e_.symm).2); (case side4 => exact Kd.R_tight rfl HO0_3.out); (case side5 => exact fun k_ e_ => (HO0_3.out.1 k_ e_.symm).2); rintro e w9 ⟨rfl, hy0, hy1, hb, hkp⟩; refine ⟨_, rfl, ?_⟩; have n0_ := Aside0.mk (Kd.R_reok rfl hy0 (fun k_ e_ => HO0_2.out.1 k_ e_)); have n1_ := Aside0.mk (Kd.R_reok rfl hy1 (fun k_ e_ => HO0_3.out.1 k_ e_)); have n2_ := Aside0.mk (blk_kept (gK BK855.out) hkp (fun hs_ => Or.elim hs_ (fun e_ => (fun e_ => (Kd.R_ne HO0_2.out BK855.out (by decide)) e_) e_) (fun e_ => (fun e_ => (Kd.R_ne HO0_3.out BK855.out (by decide)) e_) e_))); have n3_ := Aside0.mk (Kept.then_ (S := (fun k_ => P0_2_ k_ ∨ P0_3_ k_)) (by repeat (first | (with_reducible first | exact HK.out | apply Kept.alloc | apply Kept.drewN | apply Kept.drew | refine Kept.setCell ?_ (.inr GW855.out) _) | exact HK.out)) hkp (fun k_ hs_ => Or.elim hs_ (fun e_ => (fun e_ => (HO0_2.out.1 k_ e_.symm).1) e_) (fun e_ => (fun e_ => (HO0_3.out.1 k_ e_.symm).1) e_))); have n4_ := Aside0.mk (hb); clear HO0_2; clear HO0_3; clear BK855; clear HK; clear HB; have HO0_2 := n0_; have HO0_3 := n1_; have BK855 := n2_; have HK := n3_; have HB := n4_; clear n0_ n1_ n2_ n3_ n4_; (try clear hb); (try clear hkp); (try clear hy0); (try clear hy1); have hcz10_0 := cz_ BK855.out 0 rfl; have hcz10_1 := cz_ BK855.out 1 rfl; have hcz10_2 := cz_ BK855.out 2 rfl; have hcz10_3 := cz_ BK855.out 3 rfl; have hcz10_4 := cz_ BK855.out 4 rfl; have hcz10_5 := cz_ BK855.out 5 rfl; have hcz10_6 := cz_ BK855.out 6 rfl; have hfz10_0 := blk_frozen BK855.out 0; have hfz10_1 := blk_frozen BK855.out 1; have hfz10_2 := blk_frozen BK855.out 2; have hfz10_3 := blk_frozen BK855.out 3; have hfz10_4 := blk_frozen BK855.out 4; have hfz10_5 := blk_frozen BK855.out 5; have hfz10_6 := blk_frozen BK855.out 6) | ((with_reducible refine gate_callee (f := 93) rfl ?_); refine goesL_ (some 12) rfl rfl Try.func93 (by kernel_rfl) rfl #[.agg #[.int .i64 a0_4, .int .i64 a0_5, .slice A0_6 l0_6.length c0_6], .int .i64 t856] rfl (by (try simp only [List.map_toArray, List.map_cons, List.map_nil]); first | done | rfl | (simp only [List.length_drop, List.length_take]; rfl)) ?_; (with_reducible refine (laws_markSolver.calls a0_4 a0_5 _ _ l0_6 t856 t859 _ ?side1 ?side2 A4.out).mono ?_); (case side1 => exact Kd.C_kept_now HR0_6.out (by repeat (first | (with_reducible first | exact HK.out | apply Kept.alloc | apply Kept.drewN | apply Kept.drew | refine Kept.setCell ?_ (.inr GW855.out) _) | exact HK.out))); (case side2 => exact HC0_6.out); rintro e w11 ⟨rfl, hb⟩; refine ⟨_, rfl, ?_⟩; have n0_ := Aside0.mk (Kd.R_below (gR HO0_2.out) hb); have n1_ := Aside0.mk (Kd.R_below (gR HO0_3.out) hb); have n2_ := Aside0.mk (blk_below (gK BK855.out) hb); have n3_ := Aside0.mk (Kept.below (S := (fun k_ => P0_2_ k_ ∨ P0_3_ k_)) (by repeat (first | (with_reducible first | exact HK.out | apply Kept.alloc | apply Kept.drewN | apply Kept.drew | refine Kept.setCell ?_ (.inr GW855.out) _) | exact HK.out)) hb); have n4_ := Aside0.mk (below_step (gB HB.out) hb); clear HO0_2; clear HO0_3; clear BK855; clear HK; clear HB; have HO0_2 := n0_; have HO0_3 := n1_; have BK855 := n2_; have HK := n3_; have HB := n4_; clear n0_ n1_ n2_ n3_ n4_; (try clear hb); (try clear hb2); (try clear hk); (try clear hi)))
 go_ret
 exact ⟨by first | rfl | (simp [errW_none, errW_some] <;> rfl) | (simp [*, errW_none, errW_some] <;> rfl), by (with_reducible repeat (first | apply Kd.R_alloc | apply Kd.R_drewN | apply Kd.R_drew)); exact Kd.R_mono HO0_2.out (fun _ hk => hk.1), by (with_reducible repeat (first | apply Kd.R_alloc | apply Kd.R_drewN | apply Kd.R_drew)); exact Kd.R_mono HO0_3.out (fun _ hk => hk.1), by repeat (first | (with_reducible first | exact HB.out | apply below_alloc | apply pw_below_drewN | apply below_drew1 | refine below_set ?_ GE855.out) | exact HB.out), by repeat (first | (with_reducible first | exact HK.out | apply Kept.alloc | apply Kept.drewN | apply Kept.drew | refine Kept.setCell ?_ (.inr GW855.out) _) | exact HK.out)⟩

/-! ### laws_heldIntS: function 108 -/
def laws_heldIntS.l0 : Nat → List Int → Int → Int → Option (Int)
 | 0, _, _, _ => none
 | k + 1, x0, x1, x5 => if x5 < (x0.length : Int) then (if 0 ≤ x5 then (if (rd x0 x5) = x1 then (laws_heldIntS.l0 k x0 (wrap64 (x1 + 1)) (wrap64 (x5 + 1))) else (some (-1))) else (none)) else (some x1)
def laws_heldIntS.f (k : Nat) (l0 : List Int) (a1 : Int) : Option (Int) := laws_heldIntS.l0 k l0 a1 0
theorem laws_heldIntS.mono_l : ∀ k, (∀ y0 y1 y2, LeO (laws_heldIntS.l0 k y0 y1 y2) (laws_heldIntS.l0 (k + 1) y0 y1 y2))
 | 0 => fun _ _ _ r h => by simp [laws_heldIntS.l0] at h
 | k + 1 => by
  have ih0 := laws_heldIntS.mono_l k
  ·intro y0 y1 y2
   unfold laws_heldIntS.l0
   repeat' first
   | (with_reducible exact ih0 _ _ _)
   | (with_reducible exact LeO.refl _)
   | (with_reducible exact LeO.none _)
   | (with_reducible refine LeO.ite ?_ ?_)
   | (with_reducible refine LeO.bind ?_ (fun _ => ?_))
   | exact ih0 _ _ _
   | exact LeO.none _
   | refine LeO.ite ?_ ?_
   | refine LeO.bind ?_ (fun _ => ?_)
theorem laws_heldIntS.mono : ∀ a0 a1 k, LeO (laws_heldIntS.f k a0 a1) (laws_heldIntS.f (k + 1) a0 a1) := by
 intro a0 a1 k
 have ih0 := laws_heldIntS.mono_l k
 unfold laws_heldIntS.f
 repeat' first
  | (with_reducible exact ih0 _ _ _)
  | (with_reducible exact LeO.refl _)
  | (with_reducible exact LeO.none _)
  | (with_reducible refine LeO.ite ?_ ?_)
  | (with_reducible refine LeO.bind ?_ (fun _ => ?_))
  | exact ih0 _ _ _
  | exact LeO.none _
  | refine LeO.ite ?_ ?_
  | refine LeO.bind ?_ (fun _ => ?_)
set_option maxHeartbeats 8000000 in
set_option maxRecDepth 100000 in
theorem laws_heldIntS.calls (k : Nat) (A0 : Option Addr) (c0 : Nat) (l0 : List Int) (a1 : Int) (r : Int) (w : World) (hr0 : Kd.C (Kd.int .i64) w A0 l0.length l0) (hc0 : l0.length ≤ c0) (h : laws_heldIntS.f k l0 a1 = some r) :
 Calls Try.prog 108 #[.slice A0 l0.length c0, .int .i64 a1] w fun e w' => e = .returned (.int .i64 r) ∧ Drawn0 w w' := by
 have HR0 := Aside0.mk hr0
 have HC0 := Aside0.mk hc0
 clear hr0 hc0
 have H : (laws_heldIntS.l0 k l0 a1 0) = some r := h
 clear h
 have H' := Aside0.mk H
 clear H
 go_enter Try.func108, Try.ntmps108
 go_wp2
 go_loopg [1, 5] k (fun kq v1 v5 w' => ∃ (x1_1 : Int) (x5_1 : Int), v1 = .int .i64 x1_1 ∧ v5 = .int .i64 x5_1 ∧ Aside0 (laws_heldIntS.l0 kq l0 x1_1 x5_1 = some r) ∧ Aside0 (kq ≤ k) ∧ Drawn0 w w')
 case atStart => exact ⟨(a1), (0), (by first | rfl | (simp; done) | (simp [*]; done) | (simp [wrap64]; done)), (by first | rfl | (simp; done) | (simp [*]; done) | (simp [wrap64]; done)), H', ⟨Nat.le_refl _⟩, by repeat (first | exact Drawn0.refl _ | apply Drawn0.step)⟩
 case round =>
  clear H'
  try clear c1
  try clear p2
  obtain ⟨x1_1, x5_1, rfl, rfl, HA, HK1, ⟨m1, rfl⟩⟩ := hrel
  cases gk with
  | zero => exact absurd HA.out (by simp [laws_heldIntS.l0])
  | succ k1 =>
   have H := HA.out
   clear HA
   simp only [laws_heldIntS.l0] at H
   by_cases c3 : x5_1 < (l0.length : Int)
   ·rw [if_pos c3] at H
    have c3b0 : decide (x5_1 < (l0.length : Int)) = true := decide_eq_true c3
    clear c3
    by_cases c4 : 0 ≤ x5_1
    ·rw [if_pos c4] at H
     have c4b0 : decide (0 ≤ x5_1) = true := decide_eq_true c4
     clear c4
     by_cases c5 : (rd l0 x5_1) = x1_1
     ·rw [if_pos c5] at H
      have c5b0 : ((rd l0 x5_1) == x1_1) = true := beq_iff_eq.mpr c5
      have c5b1 : ((rd l0 x5_1) != x1_1) = false := bne_eq_false_iff_eq.mpr c5
      clear c5
      have H' := Aside0.mk H
      clear H
      have p860 : 0 ≤ (x5_1 : Int) := of_decide_eq_true (by first | (with_reducible assumption) | assumption)
      have q860 : x5_1 < (l0.length : Int) := of_decide_eq_true (by first | (with_reducible assumption) | assumption)
      obtain ⟨ad860, e860, hx860_0⟩ := Kd.at_int HR0.out x5_1 p860 q860
      cases e860
      replace p860 := eq_true p860
      replace q860 := eq_true q860
      go_wp2
      go_roundg k1
      case measure => have := HK1.out; omega
      case rel => exact ⟨(wrap64 (x1_1 + 1)), (wrap64 (x5_1 + 1)), (by first | rfl | (simp; done) | (simp [*]; done) | (simp [wrap64]; done)), (by first | rfl | (simp; done) | (simp [*]; done) | (simp [wrap64]; done)), H', ⟨by have := HK1.out; omega⟩, by repeat (first | exact Drawn0.refl _ | apply Drawn0.step)⟩
     ·rw [if_neg c5] at H
      have c5b0 : ((rd l0 x5_1) == x1_1) = false := beq_eq_false_iff_ne.mpr c5
      have c5b1 : ((rd l0 x5_1) != x1_1) = true := bne_iff_ne.mpr c5
      obtain rfl := Option.some.inj H
      have p860 : 0 ≤ (x5_1 : Int) := of_decide_eq_true (by first | (with_reducible assumption) | assumption)
      have q860 : x5_1 < (l0.length : Int) := of_decide_eq_true (by first | (with_reducible assumption) | assumption)
      obtain ⟨ad860, e860, hx860_0⟩ := Kd.at_int HR0.out x5_1 p860 q860
      cases e860
      replace p860 := eq_true p860
      replace q860 := eq_true q860
      go_wp2
      go_ret
      exact ⟨by first | rfl | (simp; done) | (simp [*]; done) | (simp [wrap64]; done), by repeat (first | exact Drawn0.refl _ | apply Drawn0.step)⟩
    ·rw [if_neg c4] at H
     exact absurd H (by simp)
   ·rw [if_neg c3] at H
    have c3b0 : decide (x5_1 < (l0.length : Int)) = false := decide_eq_false c3
    clear c3
    obtain rfl := Option.some.inj H
    go_wp2
    go_ret
    exact ⟨by first | rfl | (simp; done) | (simp [*]; done) | (simp [wrap64]; done), by repeat (first | exact Drawn0.refl _ | apply Drawn0.step)⟩

/-! ### laws_heldPlan: function 94 -/
def laws_heldPlan.f (k : Nat) (a0_0 : Int) (a0_1 : Int) (l0_2 : List Int) (l0_3 : List Int) (a1 : Int) : Option (Int) := (laws_heldIntS.f k l0_2 a1).bind fun t862 => (if t862 < 0 then (some (-1)) else ((laws_heldIntS.f k l0_3 t862).bind fun t863 => (if t863 < 0 then (some (-1)) else (some t863))))
theorem laws_heldPlan.mono : ∀ a0 a1 a2 a3 a4 k, LeO (laws_heldPlan.f k a0 a1 a2 a3 a4) (laws_heldPlan.f (k + 1) a0 a1 a2 a3 a4) := by
 intro a0 a1 a2 a3 a4 k
 unfold laws_heldPlan.f
 repeat' first
  | (with_reducible exact laws_heldIntS.mono _ _ _)
  | (with_reducible exact LeO.refl _)
  | (with_reducible exact LeO.none _)
  | (with_reducible refine LeO.ite ?_ ?_)
  | (with_reducible refine LeO.bind ?_ (fun _ => ?_))
  | exact laws_heldIntS.mono _ _ _
  | exact LeO.none _
  | refine LeO.ite ?_ ?_
  | refine LeO.bind ?_ (fun _ => ?_)
set_option maxHeartbeats 8000000 in
set_option maxRecDepth 100000 in
theorem laws_heldPlan.calls (k : Nat) (a0_0 : Int) (a0_1 : Int) (A0_2 : Option Addr) (c0_2 : Nat) (l0_2 : List Int) (A0_3 : Option Addr) (c0_3 : Nat) (l0_3 : List Int) (a1 : Int) (r : Int) (w : World) (hr0_2 : Kd.C (Kd.int .i64) w A0_2 l0_2.length l0_2) (hc0_2 : l0_2.length ≤ c0_2) (hr0_3 : Kd.C (Kd.int .i64) w A0_3 l0_3.length l0_3) (hc0_3 : l0_3.length ≤ c0_3) (h : laws_heldPlan.f k a0_0 a0_1 l0_2 l0_3 a1 = some r) :
 Calls Try.prog 94 #[.agg #[.int .i64 a0_0, .int .i64 a0_1, .slice A0_2 l0_2.length c0_2, .slice A0_3 l0_3.length c0_3], .int .i64 a1] w fun e w' => e = .returned (.int .i64 r) ∧ Below w.heap.size w w' := by
 have hu46 := Try.underlying46
 have HR0_2 := Aside0.mk hr0_2
 have HC0_2 := Aside0.mk hc0_2
 clear hr0_2 hc0_2
 have HR0_3 := Aside0.mk hr0_3
 have HC0_3 := Aside0.mk hc0_3
 clear hr0_3 hc0_3
 have HB := Aside0.mk (Below.refl w.heap.size w)
 have H : ((laws_heldIntS.f k l0_2 a1).bind fun t862 => (if t862 < 0 then (some (-1)) else ((laws_heldIntS.f k l0_3 t862).bind fun t863 => (if t863 < 0 then (some (-1)) else (some t863))))) = some r := h
 clear h
 replace H := bI_ H
 obtain ⟨t862, A30, H⟩ := H
 replace H : (if t862 < 0 then (some (-1)) else ((laws_heldIntS.f k l0_3 t862).bind fun t863 => (if t863 < 0 then (some (-1)) else (some t863)))) = some r := H
 have A3 := Aside0.mk A30
 clear A30
 by_cases c4 : t862 < 0
 ·rw [if_pos c4] at H
  have c4b0 : decide (t862 < 0) = true := decide_eq_true c4
  clear c4
  obtain rfl := Option.some.inj H
  go_enter Try.func94, Try.ntmps94
  go_wp2_with (first | ((with_reducible refine gate_dst (N := 2) rfl ?_); refine box_event ?hg (N := 2) ?hd (cs := #[.int .i64 a0_0, .int .i64 a0_1, .slice A0_2 l0_2.length c0_2, .slice A0_3 l0_3.length c0_3]) (t := 46) ?hr ?_; (case hd => rfl); (case hg => rfl); (case hr => first | (go_simp; done) | (go_simp; rfl)); intro gb861 hg w5 hbox hb; have n0_ := Aside0.mk (below_step (gB HB.out) hb); have n1_ := Aside0.mk (hbox); have n2_ := Aside0.mk ((by rw [hg]; exact (below_size (gB HB.out)) : w.heap.size ≤ gb861)); have n3_ := n2_; clear HB; have HB := n0_; have BK861 := n1_; have GW861 := n2_; have GE861 := n3_; clear n0_ n1_ n2_ n3_; clear hb hbox hg; have hcz6_0 := cz_ BK861.out 0 rfl; have hcz6_1 := cz_ BK861.out 1 rfl; have hcz6_2 := cz_ BK861.out 2 rfl; have hcz6_3 := cz_ BK861.out 3 rfl; have hfz6_0 := blk_frozen BK861.out 0; have hfz6_1 := blk_frozen BK861.out 1; have hfz6_2 := blk_frozen BK861.out 2; have hfz6_3 := blk_frozen BK861.out 3) | ((with_reducible refine gate_callee (f := 108) rfl ?_); refine goesL_ (some 8) rfl rfl Try.func108 (by kernel_rfl) rfl #[.slice A0_2 l0_2.length c0_2, .int .i64 a1] rfl (by (try simp only [List.map_toArray, List.map_cons, List.map_nil]); first | done | rfl | (simp only [List.length_drop, List.length_take]; rfl)) ?_; (with_reducible refine (laws_heldIntS.calls k _ _ l0_2 a1 t862 _ ?side1 ?side2 A3.out).mono ?_); (case side1 => exact gC (Kd.C_below HR0_2.out HB.out)); (case side2 => exact HC0_2.out); rintro e w' ⟨rfl, ⟨nd, rfl⟩⟩; refine ⟨_, rfl, ?_⟩))
  go_ret
  exact ⟨by first | rfl | (simp [errW_none, errW_some] <;> rfl) | (simp [*, errW_none, errW_some] <;> rfl), by repeat (first | (with_reducible first | exact HB.out | apply below_alloc | apply pw_below_drewN | apply below_drew1 | refine below_set ?_ GE861.out) | exact HB.out)⟩
 ·rw [if_neg c4] at H
  have c4b0 : decide (t862 < 0) = false := decide_eq_false c4
  clear c4
  replace H := bI_ H
  obtain ⟨t863, A70, H⟩ := H
  replace H : (if t863 < 0 then (some (-1)) else (some t863)) = some r := H
  have A7 := Aside0.mk A70
  clear A70
  by_cases c8 : t863 < 0
  ·rw [if_pos c8] at H
   have c8b0 : decide (t863 < 0) = true := decide_eq_true c8
   clear c8
   obtain rfl := Option.some.inj H
   go_enter Try.func94, Try.ntmps94
   go_wp2_with (first | ((with_reducible refine gate_dst (N := 2) rfl ?_); refine box_event ?hg (N := 2) ?hd (cs := #[.int .i64 a0_0, .int .i64 a0_1, .slice A0_2 l0_2.length c0_2, .slice A0_3 l0_3.length c0_3]) (t := 46) ?hr ?_; (case hd => rfl); (case hg => rfl); (case hr => first | (go_simp; done) | (go_simp; rfl)); intro gb861 hg w9 hbox hb; have n0_ := Aside0.mk (below_step (gB HB.out) hb); have n1_ := Aside0.mk (hbox); have n2_ := Aside0.mk ((by rw [hg]; exact (below_size (gB HB.out)) : w.heap.size ≤ gb861)); have n3_ := n2_; clear HB; have HB := n0_; have BK861 := n1_; have GW861 := n2_; have GE861 := n3_; clear n0_ n1_ n2_ n3_; clear hb hbox hg; have hcz10_0 := cz_ BK861.out 0 rfl; have hcz10_1 := cz_ BK861.out 1 rfl; have hcz10_2 := cz_ BK861.out 2 rfl; have hcz10_3 := cz_ BK861.out 3 rfl; have hfz10_0 := blk_frozen BK861.out 0; have hfz10_1 := blk_frozen BK861.out 1; have hfz10_2 := blk_frozen BK861.out 2; have hfz10_3 := blk_frozen BK861.out 3) | ((with_reducible refine gate_callee (f := 108) rfl ?_); refine goesL_ (some 8) rfl rfl Try.func108 (by kernel_rfl) rfl #[.slice A0_2 l0_2.length c0_2, .int .i64 a1] rfl (by (try simp only [List.map_toArray, List.map_cons, List.map_nil]); first | done | rfl | (simp only [List.length_drop, List.length_take]; rfl)) ?_; (with_reducible refine (laws_heldIntS.calls k _ _ l0_2 a1 t862 _ ?side1 ?side2 A3.out).mono ?_); (case side1 => exact gC (Kd.C_below HR0_2.out HB.out)); (case side2 => exact HC0_2.out); rintro e w' ⟨rfl, ⟨nd, rfl⟩⟩; refine ⟨_, rfl, ?_⟩) | ((with_reducible refine gate_callee (f := 108) rfl ?_); refine goesL_ (some 14) rfl rfl Try.func108 (by kernel_rfl) rfl #[.slice A0_3 l0_3.length c0_3, .int .i64 t862] rfl (by (try simp only [List.map_toArray, List.map_cons, List.map_nil]); first | done | rfl | (simp only [List.length_drop, List.length_take]; rfl)) ?_; (with_reducible refine (laws_heldIntS.calls k _ _ l0_3 t862 t863 _ ?side1 ?side2 A7.out).mono ?_); (case side1 => repeat (first | exact (Kd.C_below HR0_3.out (gB HB.out)) | (with_reducible refine Kd.C_alloc ?_ _) | (with_reducible refine Kd.C_drewN ?_ _) | (with_reducible refine Kd.C_drew ?_))); (case side2 => exact HC0_3.out); rintro e w' ⟨rfl, ⟨nd, rfl⟩⟩; refine ⟨_, rfl, ?_⟩))
   go_ret
   exact ⟨by first | rfl | (simp [errW_none, errW_some] <;> rfl) | (simp [*, errW_none, errW_some] <;> rfl), by repeat (first | (with_reducible first | exact HB.out | apply below_alloc | apply pw_below_drewN | apply below_drew1 | refine below_set ?_ GE861.out) | exact HB.out)⟩
  ·rw [if_neg c8] at H
   have c8b0 : decide (t863 < 0) = false := decide_eq_false c8
   clear c8
   obtain rfl := Option.some.inj H
   go_enter Try.func94, Try.ntmps94
   go_wp2_with (first | ((with_reducible refine gate_dst (N := 2) rfl ?_); refine box_event ?hg (N := 2) ?hd (cs := #[.int .i64 a0_0, .int .i64 a0_1, .slice A0_2 l0_2.length c0_2, .slice A0_3 l0_3.length c0_3]) (t := 46) ?hr ?_; (case hd => rfl); (case hg => rfl); (case hr => first | (go_simp; done) | (go_simp; rfl)); intro gb861 hg w11 hbox hb; have n0_ := Aside0.mk (below_step (gB HB.out) hb); have n1_ := Aside0.mk (hbox); have n2_ := Aside0.mk ((by rw [hg]; exact (below_size (gB HB.out)) : w.heap.size ≤ gb861)); have n3_ := n2_; clear HB; have HB := n0_; have BK861 := n1_; have GW861 := n2_; have GE861 := n3_; clear n0_ n1_ n2_ n3_; clear hb hbox hg; have hcz12_0 := cz_ BK861.out 0 rfl; have hcz12_1 := cz_ BK861.out 1 rfl; have hcz12_2 := cz_ BK861.out 2 rfl; have hcz12_3 := cz_ BK861.out 3 rfl; have hfz12_0 := blk_frozen BK861.out 0; have hfz12_1 := blk_frozen BK861.out 1; have hfz12_2 := blk_frozen BK861.out 2; have hfz12_3 := blk_frozen BK861.out 3) | ((with_reducible refine gate_callee (f := 108) rfl ?_); refine goesL_ (some 8) rfl rfl Try.func108 (by kernel_rfl) rfl #[.slice A0_2 l0_2.length c0_2, .int .i64 a1] rfl (by (try simp only [List.map_toArray, List.map_cons, List.map_nil]); first | done | rfl | (simp only [List.length_drop, List.length_take]; rfl)) ?_; (with_reducible refine (laws_heldIntS.calls k _ _ l0_2 a1 t862 _ ?side1 ?side2 A3.out).mono ?_); (case side1 => exact gC (Kd.C_below HR0_2.out HB.out)); (case side2 => exact HC0_2.out); rintro e w' ⟨rfl, ⟨nd, rfl⟩⟩; refine ⟨_, rfl, ?_⟩) | ((with_reducible refine gate_callee (f := 108) rfl ?_); refine goesL_ (some 14) rfl rfl Try.func108 (by kernel_rfl) rfl #[.slice A0_3 l0_3.length c0_3, .int .i64 t862] rfl (by (try simp only [List.map_toArray, List.map_cons, List.map_nil]); first | done | rfl | (simp only [List.length_drop, List.length_take]; rfl)) ?_; (with_reducible refine (laws_heldIntS.calls k _ _ l0_3 t862 t863 _ ?side1 ?side2 A7.out).mono ?_); (case side1 => repeat (first | exact (Kd.C_below HR0_3.out (gB HB.out)) | (with_reducible refine Kd.C_alloc ?_ _) | (with_reducible refine Kd.C_drewN ?_ _) | (with_reducible refine Kd.C_drew ?_))); (case side2 => exact HC0_3.out); rintro e w' ⟨rfl, ⟨nd, rfl⟩⟩; refine ⟨_, rfl, ?_⟩))
   go_ret
   exact ⟨by first | rfl | (simp [errW_none, errW_some] <;> rfl) | (simp [*, errW_none, errW_some] <;> rfl), by repeat (first | (with_reducible first | exact HB.out | apply below_alloc | apply pw_below_drewN | apply below_drew1 | refine below_set ?_ GE861.out) | exact HB.out)⟩

/-! ### laws_heldEqS: function 109 -/
def laws_heldEqS.l0 : Nat → List (S84) → Int → Int → Option (Int)
 | 0, _, _, _ => none
 | k + 1, x0, x1, x5 => if x5 < (x0.length : Int) then (if 0 ≤ x5 then ((laws_heldIntS.f k ((rd_T84 x0 x5).f0) x1).bind fun t865 => (if t865 < 0 then (some (-1)) else ((laws_markText.f k t865).bind fun t867 => (if ((rd_T84 x0 x5).f1).toList = t867.toList then (laws_heldEqS.l0 k x0 (wrap64 (t865 + 1)) (wrap64 (x5 + 1))) else (some (-1)))))) else (none)) else (some x1)
def laws_heldEqS.f (k : Nat) (l0 : List (S84)) (a1 : Int) : Option (Int) := laws_heldEqS.l0 k l0 a1 0
theorem laws_heldEqS.mono_l : ∀ k, (∀ y0 y1 y2, LeO (laws_heldEqS.l0 k y0 y1 y2) (laws_heldEqS.l0 (k + 1) y0 y1 y2))
 | 0 => fun _ _ _ r h => by simp [laws_heldEqS.l0] at h
 | k + 1 => by
  have ih0 := laws_heldEqS.mono_l k
  ·intro y0 y1 y2
   unfold laws_heldEqS.l0
   repeat' first
   | (with_reducible exact ih0 _ _ _)
   | (with_reducible exact laws_heldIntS.mono _ _ _)
   | (with_reducible exact laws_markText.mono _ _)
   | (with_reducible exact LeO.refl _)
   | (with_reducible exact LeO.none _)
   | (with_reducible refine LeO.ite ?_ ?_)
   | (with_reducible refine LeO.bind ?_ (fun _ => ?_))
   | exact ih0 _ _ _
   | exact laws_heldIntS.mono _ _ _
   | exact laws_markText.mono _ _
   | exact LeO.none _
   | refine LeO.ite ?_ ?_
   | refine LeO.bind ?_ (fun _ => ?_)
theorem laws_heldEqS.mono : ∀ a0 a1 k, LeO (laws_heldEqS.f k a0 a1) (laws_heldEqS.f (k + 1) a0 a1) := by
 intro a0 a1 k
 have ih0 := laws_heldEqS.mono_l k
 unfold laws_heldEqS.f
 repeat' first
  | (with_reducible exact ih0 _ _ _)
  | (with_reducible exact laws_heldIntS.mono _ _ _)
  | (with_reducible exact laws_markText.mono _ _)
  | (with_reducible exact LeO.refl _)
  | (with_reducible exact LeO.none _)
  | (with_reducible refine LeO.ite ?_ ?_)
  | (with_reducible refine LeO.bind ?_ (fun _ => ?_))
  | exact ih0 _ _ _
  | exact laws_heldIntS.mono _ _ _
  | exact laws_markText.mono _ _
  | exact LeO.none _
  | refine LeO.ite ?_ ?_
  | refine LeO.bind ?_ (fun _ => ?_)
def laws_heldEqS.T7 : Bool × List (List Nat × List Nat) := (true, [([], []), ([], []), ([0, 1], [0, 1]), ([2], [2]), ([3], [3]), ([], []), ([5], [5]), ([4, 6], [4, 6])])
def laws_heldEqS.B7 : List Nat := [0, 0, 3, 7, 15, 0, 32, 127]
theorem laws_heldEqS.tab7 : rtab .any (opsOf Try.f109 7) = laws_heldEqS.T7 := by kernel_rfl
theorem laws_heldEqS.bits7 : waitsOk laws_heldEqS.T7.2 laws_heldEqS.B7 = true := by kernel_rfl
set_option maxHeartbeats 8000000 in
set_option maxRecDepth 100000 in
theorem laws_heldEqS.calls (k : Nat) (A0 : Option Addr) (c0 : Nat) (l0 : List (S84)) (a1 : Int) (r : Int) (w : World) (hr0 : Kd.C k84 w A0 l0.length l0) (hc0 : l0.length ≤ c0) (h : laws_heldEqS.f k l0 a1 = some r) :
 Calls Try.prog 109 #[.slice A0 l0.length c0, .int .i64 a1] w fun e w' => e = .returned (.int .i64 r) ∧ Below w.heap.size w w' := by
 have HR0 := Aside0.mk hr0
 have HC0 := Aside0.mk hc0
 clear hr0 hc0
 have HB := Aside0.mk (Below.refl w.heap.size w)
 have H : (laws_heldEqS.l0 k l0 a1 0) = some r := h
 clear h
 have H' := Aside0.mk H
 clear H
 go_enter Try.func109, Try.ntmps109
 go_wp2
 go_loopg [1, 5] k (fun kq v1 v5 w' => ∃ (x1_1 : Int) (x5_1 : Int), v1 = .int .i64 x1_1 ∧ v5 = .int .i64 x5_1 ∧ Aside0 (laws_heldEqS.l0 kq l0 x1_1 x5_1 = some r) ∧ Aside0 (kq ≤ k) ∧ Aside0 (Below w.heap.size w w'))
 case atStart => exact ⟨(a1), (0), (by first | rfl | (simp; done) | (simp [*]; done) | (simp [wrap64]; done)), (by first | rfl | (simp; done) | (simp [*]; done) | (simp [wrap64]; done)), H', ⟨Nat.le_refl _⟩, ⟨by repeat (first | (with_reducible first | exact HB.out | apply below_alloc | apply pw_below_drewN | apply below_drew1) | exact HB.out)⟩⟩
 case round =>
  clear H'
  try clear c1
  try clear p2
  obtain ⟨x1_1, x5_1, rfl, rfl, HA, HK1, HB⟩ := hrel
  cases gk with
  | zero => exact absurd HA.out (by simp [laws_heldEqS.l0])
  | succ k1 =>
   have H := HA.out
   clear HA
   simp only [laws_heldEqS.l0] at H
   by_cases c3 : x5_1 < (l0.length : Int)
   ·rw [if_pos c3] at H
    have c3b0 : decide (x5_1 < (l0.length : Int)) = true := decide_eq_true c3
    clear c3
    by_cases c4 : 0 ≤ x5_1
    ·rw [if_pos c4] at H
     have c4b0 : decide (0 ≤ x5_1) = true := decide_eq_true c4
     clear c4
     replace H := bI_ H
     obtain ⟨t865, A50, H⟩ := H
     replace H : (if t865 < 0 then (some (-1)) else ((laws_markText.f k1 t865).bind fun t867 => (if ((rd_T84 l0 x5_1).f1).toList = t867.toList then (laws_heldEqS.l0 k1 l0 (wrap64 (t865 + 1)) (wrap64 (x5_1 + 1))) else (some (-1))))) = some r := H
     have A5 := Aside0.mk A50
     clear A50
     by_cases c6 : t865 < 0
     ·rw [if_pos c6] at H
      have c6b0 : decide (t865 < 0) = true := decide_eq_true c6
      clear c6
      obtain rfl := Option.some.inj H
      have p864 : 0 ≤ (x5_1 : Int) := of_decide_eq_true (by first | (with_reducible assumption) | assumption)
      have q864 : x5_1 < (l0.length : Int) := of_decide_eq_true (by first | (with_reducible assumption) | assumption)
      obtain ⟨ad864, A864_0, c864_0, e864, hx864_0, hx864_1, hl864_0, hi864_0⟩ := at_T84 HR0.out x5_1 p864 q864
      cases e864
      replace hx864_0 := (HB.out.cell (World.block_lt_of_cell? w _ hx864_0)).trans hx864_0
      replace hx864_1 := (HB.out.cell (World.block_lt_of_cell? w _ hx864_1)).trans hx864_1
      have HR864_0 := Aside0.mk hi864_0
      have HC864_0 := Aside0.mk hl864_0
      clear hi864_0 hl864_0
      replace p864 := eq_true p864
      replace q864 := eq_true q864
      go_wp2_with (first | ((with_reducible refine gate_callee (f := 108) rfl ?_); refine goesL_ (some 18) rfl rfl Try.func108 (by kernel_rfl) rfl #[.slice A864_0 ((rd_T84 l0 x5_1).f0).length c864_0, .int .i64 x1_1] rfl (by (try simp only [List.map_toArray, List.map_cons, List.map_nil]); first | done | rfl | (simp only [List.length_drop, List.length_take]; rfl)) ?_; (with_reducible refine (laws_heldIntS.calls k1 _ _ ((rd_T84 l0 x5_1).f0) x1_1 t865 _ ?side1 ?side2 A5.out).mono ?_); (case side1 => exact gC (Kd.C_below HR864_0.out HB.out)); (case side2 => exact HC864_0.out); rintro e w' ⟨rfl, ⟨nd, rfl⟩⟩; refine ⟨_, rfl, ?_⟩))
      go_ret
      exact ⟨by first | rfl | (simp [errW_none, errW_some] <;> rfl) | (simp [*, errW_none, errW_some] <;> rfl), by repeat (first | (with_reducible first | exact HB.out | apply below_alloc | apply pw_below_drewN | apply below_drew1) | exact HB.out)⟩
     ·rw [if_neg c6] at H
      have c6b0 : decide (t865 < 0) = false := decide_eq_false c6
      clear c6
      replace H := bI_ H
      obtain ⟨t867, A70, H⟩ := H
      replace H : (if ((rd_T84 l0 x5_1).f1).toList = t867.toList then (laws_heldEqS.l0 k1 l0 (wrap64 (t865 + 1)) (wrap64 (x5_1 + 1))) else (some (-1))) = some r := H
      have A7 := Aside0.mk A70
      clear A70
      by_cases c8 : ((rd_T84 l0 x5_1).f1).toList = t867.toList
      ·rw [if_pos c8] at H
       have c8b0 : (((rd_T84 l0 x5_1).f1).toList == t867.toList) = true := beq_iff_eq.mpr c8
       have c8b1 : (((rd_T84 l0 x5_1).f1).toList != t867.toList) = false := bne_eq_false_iff_eq.mpr c8
       clear c8
       have H' := Aside0.mk H
       clear H
       have p864 : 0 ≤ (x5_1 : Int) := of_decide_eq_true (by first | (with_reducible assumption) | assumption)
       have q864 : x5_1 < (l0.length : Int) := of_decide_eq_true (by first | (with_reducible assumption) | assumption)
       obtain ⟨ad864, A864_0, c864_0, e864, hx864_0, hx864_1, hl864_0, hi864_0⟩ := at_T84 HR0.out x5_1 p864 q864
       cases e864
       replace hx864_0 := (HB.out.cell (World.block_lt_of_cell? w _ hx864_0)).trans hx864_0
       replace hx864_1 := (HB.out.cell (World.block_lt_of_cell? w _ hx864_1)).trans hx864_1
       have HR864_0 := Aside0.mk hi864_0
       have HC864_0 := Aside0.mk hl864_0
       clear hi864_0 hl864_0
       replace p864 := eq_true p864
       replace q864 := eq_true q864
       try go_wp2_with (first | ((with_reducible refine gate_callee (f := 108) rfl ?_); refine goesL_ (some 18) rfl rfl Try.func108 (by kernel_rfl) rfl #[.slice A864_0 ((rd_T84 l0 x5_1).f0).length c864_0, .int .i64 x1_1] rfl (by (try simp only [List.map_toArray, List.map_cons, List.map_nil]); first | done | rfl | (simp only [List.length_drop, List.length_take]; rfl)) ?_; (with_reducible refine (laws_heldIntS.calls k1 _ _ ((rd_T84 l0 x5_1).f0) x1_1 t865 _ ?side1 ?side2 A5.out).mono ?_); (case side1 => exact gC (Kd.C_below HR864_0.out HB.out)); (case side2 => exact HC864_0.out); rintro e w' ⟨rfl, ⟨nd, rfl⟩⟩; refine ⟨_, rfl, ?_⟩))
       (try (rw [drewN_self wr]; generalize hq_ : World.drewN wr _ = wr; have n0_ : Aside0 (Below w.heap.size w wr) := ⟨by rw [← hq_]; exact (gB HB.out)⟩; clear HB hq_; have HB := n0_; clear n0_))
       have n0_ := Aside0.mk (below_drew1 HB.out)
       clear HB
       have HB := n0_
       clear n0_
       have p866 : 0 ≤ (x5_1 : Int) := of_decide_eq_true (by first | (with_reducible assumption) | assumption)
       have q866 : x5_1 < (l0.length : Int) := of_decide_eq_true (by first | (with_reducible assumption) | assumption)
       obtain ⟨ad866, A866_0, c866_0, e866, hx866_0, hx866_1, hl866_0, hi866_0⟩ := at_T84 HR0.out x5_1 p866 q866
       have hw866_1 := hx866_1
       have hw866_0 := hx866_0
       obtain rfl : ad864 = ad866 := (by injection e866)
       replace hx866_0 := (HB.out.cell (World.block_lt_of_cell? w _ hx866_0)).trans hx866_0
       replace hx866_1 := (HB.out.cell (World.block_lt_of_cell? w _ hx866_1)).trans hx866_1
       have HR866_0 := Aside0.mk hi866_0
       have HC866_0 := Aside0.mk hl866_0
       clear hi866_0 hl866_0
       replace p866 := eq_true p866
       replace q866 := eq_true q866
       refine start_ (n := 8) (S := fun w' => w'.cell? (ad864.add ((x5_1).toNat * 2)) = some (.slice A866_0 ((rd_T84 l0 x5_1).f0).length c866_0) ∧ w'.cell? ⟨(ad864.add ((x5_1).toNat * 2)).block, (ad864.add ((x5_1).toNat * 2)).off + 1, none⟩ = some (.string ((rd_T84 l0 x5_1).f1))) (ds := []) (.replicate 8 false) (by kernel_rfl) rfl rfl ⟨((HB.out.cell (World.block_lt_of_cell? w _ hw866_0)).trans hw866_0), ((HB.out.cell (World.block_lt_of_cell? w _ hw866_1)).trans hw866_1)⟩ (fun hHeld => ?_); refine with_tabW laws_heldEqS.tab7 laws_heldEqS.bits7 (fun HT_ HW_ => ?_)
       generalize wr.drew = w9 at HB HR866_0 hx866_0 hx866_1 hHeld ⊢
       refine pu_ 0 (some 21) (bv 8 1) rfl rfl (any_of HT_.out (by kernel_rfl)) (fun _ _ _ h => h) (by rfl) (fun w' => by go_simp; with_reducible rfl) (by simp only [Act.put, eA_, e0_, eS_, i64_w, i32_w]; rfl) ?_
       refine pu_ 1 (some 22) (bv 8 3) rfl rfl (any_of HT_.out (by kernel_rfl)) (fun _ _ _ h => h) (by rfl) (fun w' => by go_simp; with_reducible rfl) (by simp only [Act.put, eA_, e0_, eS_, i64_w, i32_w]; rfl) ?_
       refine pu_ 2 (some 23) (bv 8 7) rfl rfl (any_of HT_.out (by kernel_rfl)) (fun _ _ _ h => h) (by rfl) (fun w' => by go_simp; with_reducible rfl) (by simp only [Act.put, eA_, e0_, eS_, i64_w, i32_w]; rfl) ?_
       refine pu_ 3 (some 24) (bv 8 15) rfl rfl (any_of HT_.out (by kernel_rfl)) (fun _ _ _ h => h) (by rfl) (fun w' => by go_simp; with_reducible rfl) (by simp only [Act.put, eA_, e0_, eS_, i64_w, i32_w]; rfl) ?_
       refine pu_ 5 (some 26) (bv 8 47) rfl rfl (any_of HT_.out (by kernel_rfl)) (fun _ _ _ h => h) (by rfl) (fun w' => by go_simp; with_reducible rfl) (by simp only [Act.put, eA_, e0_, eS_, i64_w, i32_w]; rfl) ?_
       refine tk_ 4 (some 25) (bv 8 63) rfl rfl (take_ofW HT_.out HW_.out (by kernel_rfl)) (fun _ _ _ h => h) (by rfl) hHeld (fun w' ⟨s0, s1⟩ => by go_simp; with_reducible rfl) (by simp only [Act.put, eA_, e0_, eS_, i64_w, i32_w]; rfl) ?_
       refine one_ (i := 6) (N := some 27) (bv 8 127) rfl rfl (one_of HT_.out (by kernel_rfl)) (by decide) (fun K hK => ?_)
       refine goes_ Try.func81 (by kernel_rfl) rfl #[.int .i64 t865] (by rfl) rfl rfl (by (try simp only [List.map_toArray, List.map_cons, List.map_nil]); first | done | rfl | (simp only [List.length_drop, List.length_take]; rfl)) ?_
       with_reducible refine (laws_markText.calls k1 t865 t867 _ A7.out).mono ?_
       rintro e w10 ⟨rfl, hb⟩
       refine ⟨_, rfl, ?_⟩
       have n0_ := Aside0.mk (below_step (gB HB.out) hb)
       clear HB
       have HB := n0_
       clear n0_
       (try clear hb)
       (try clear hb2)
       (try clear hk)
       (try clear hi)
       refine hK.out _ _ ⟨((HB.out.cell (World.block_lt_of_cell? w _ hw866_0)).trans hw866_0), ((HB.out.cell (World.block_lt_of_cell? w _ hw866_1)).trans hw866_1)⟩ (fun hHeld => ?_)
       clear hK K
       refine norm_ (a' := ?_) ?_ ?_
       rotate_left
       ·show Act.put _ (some 27) _ = _
        simp only [Act.put, eA_, e0_, eS_, i64_w, i32_w]
        rfl
       refine pu_ 7 (some 28) (bv 8 255) rfl rfl (any_of HT_.out (by kernel_rfl)) (fun _ _ _ h => h) (by rfl) (fun w' => by go_simp; with_reducible rfl) (by simp only [Act.put, eA_, e0_, eS_, i64_w, i32_w]; rfl) ?_
       refine done_ (done_of HT_.out (by kernel_rfl)) ?_
       try go_wp2
       go_roundg k1
       case measure => have := HK1.out; omega
       case rel => exact ⟨(wrap64 (t865 + 1)), (wrap64 (x5_1 + 1)), (by first | rfl | (simp; done) | (simp [*]; done) | (simp [wrap64]; done)), (by first | rfl | (simp; done) | (simp [*]; done) | (simp [wrap64]; done)), H', ⟨by have := HK1.out; omega⟩, ⟨by repeat (first | (with_reducible first | exact HB.out | apply below_alloc | apply pw_below_drewN | apply below_drew1) | exact HB.out)⟩⟩
      ·rw [if_neg c8] at H
       have c8b0 : (((rd_T84 l0 x5_1).f1).toList == t867.toList) = false := beq_eq_false_iff_ne.mpr c8
       have c8b1 : (((rd_T84 l0 x5_1).f1).toList != t867.toList) = true := bne_iff_ne.mpr c8
       obtain rfl := Option.some.inj H
       have p864 : 0 ≤ (x5_1 : Int) := of_decide_eq_true (by first | (with_reducible assumption) | assumption)
       have q864 : x5_1 < (l0.length : Int) := of_decide_eq_true (by first | (with_reducible assumption) | assumption)
       obtain ⟨ad864, A864_0, c864_0, e864, hx864_0, hx864_1, hl864_0, hi864_0⟩ := at_T84 HR0.out x5_1 p864 q864
       cases e864
       replace hx864_0 := (HB.out.cell (World.block_lt_of_cell? w _ hx864_0)).trans hx864_0
       replace hx864_1 := (HB.out.cell (World.block_lt_of_cell? w _ hx864_1)).trans hx864_1
       have HR864_0 := Aside0.mk hi864_0
       have HC864_0 := Aside0.mk hl864_0
       clear hi864_0 hl864_0
       replace p864 := eq_true p864
       replace q864 := eq_true q864
       try go_wp2_with (first | ((with_reducible refine gate_callee (f := 108) rfl ?_); refine goesL_ (some 18) rfl rfl Try.func108 (by kernel_rfl) rfl #[.slice A864_0 ((rd_T84 l0 x5_1).f0).length c864_0, .int .i64 x1_1] rfl (by (try simp only [List.map_toArray, List.map_cons, List.map_nil]); first | done | rfl | (simp only [List.length_drop, List.length_take]; rfl)) ?_; (with_reducible refine (laws_heldIntS.calls k1 _ _ ((rd_T84 l0 x5_1).f0) x1_1 t865 _ ?side1 ?side2 A5.out).mono ?_); (case side1 => exact gC (Kd.C_below HR864_0.out HB.out)); (case side2 => exact HC864_0.out); rintro e w' ⟨rfl, ⟨nd, rfl⟩⟩; refine ⟨_, rfl, ?_⟩))
       (try (rw [drewN_self wr]; generalize hq_ : World.drewN wr _ = wr; have n0_ : Aside0 (Below w.heap.size w wr) := ⟨by rw [← hq_]; exact (gB HB.out)⟩; clear HB hq_; have HB := n0_; clear n0_))
       have n0_ := Aside0.mk (below_drew1 HB.out)
       clear HB
       have HB := n0_
       clear n0_
       have p866 : 0 ≤ (x5_1 : Int) := of_decide_eq_true (by first | (with_reducible assumption) | assumption)
       have q866 : x5_1 < (l0.length : Int) := of_decide_eq_true (by first | (with_reducible assumption) | assumption)
       obtain ⟨ad866, A866_0, c866_0, e866, hx866_0, hx866_1, hl866_0, hi866_0⟩ := at_T84 HR0.out x5_1 p866 q866
       have hw866_1 := hx866_1
       have hw866_0 := hx866_0
       obtain rfl : ad864 = ad866 := (by injection e866)
       replace hx866_0 := (HB.out.cell (World.block_lt_of_cell? w _ hx866_0)).trans hx866_0
       replace hx866_1 := (HB.out.cell (World.block_lt_of_cell? w _ hx866_1)).trans hx866_1
       have HR866_0 := Aside0.mk hi866_0
       have HC866_0 := Aside0.mk hl866_0
       clear hi866_0 hl866_0
       replace p866 := eq_true p866
       replace q866 := eq_true q866
       refine start_ (n := 8) (S := fun w' => w'.cell? (ad864.add ((x5_1).toNat * 2)) = some (.slice A866_0 ((rd_T84 l0 x5_1).f0).length c866_0) ∧ w'.cell? ⟨(ad864.add ((x5_1).toNat * 2)).block, (ad864.add ((x5_1).toNat * 2)).off + 1, none⟩ = some (.string ((rd_T84 l0 x5_1).f1))) (ds := []) (.replicate 8 false) (by kernel_rfl) rfl rfl ⟨((HB.out.cell (World.block_lt_of_cell? w _ hw866_0)).trans hw866_0), ((HB.out.cell (World.block_lt_of_cell? w _ hw866_1)).trans hw866_1)⟩ (fun hHeld => ?_); refine with_tabW laws_heldEqS.tab7 laws_heldEqS.bits7 (fun HT_ HW_ => ?_)
       generalize wr.drew = w11 at HB HR866_0 hx866_0 hx866_1 hHeld ⊢
       refine pu_ 0 (some 21) (bv 8 1) rfl rfl (any_of HT_.out (by kernel_rfl)) (fun _ _ _ h => h) (by rfl) (fun w' => by go_simp; with_reducible rfl) (by simp only [Act.put, eA_, e0_, eS_, i64_w, i32_w]; rfl) ?_
       refine pu_ 1 (some 22) (bv 8 3) rfl rfl (any_of HT_.out (by kernel_rfl)) (fun _ _ _ h => h) (by rfl) (fun w' => by go_simp; with_reducible rfl) (by simp only [Act.put, eA_, e0_, eS_, i64_w, i32_w]; rfl) ?_
       refine pu_ 2 (some 23) (bv 8 7) rfl rfl (any_of HT_.out (by kernel_rfl)) (fun _ _ _ h => h) (by rfl) (fun w' => by go_simp; with_reducible rfl) (by simp only [Act.put, eA_, e0_, eS_, i64_w, i32_w]; rfl) ?_
       refine pu_ 3 (some 24) (bv 8 15) rfl rfl (any_of HT_.out (by kernel_rfl)) (fun _ _ _ h => h) (by rfl) (fun w' => by go_simp; with_reducible rfl) (by simp only [Act.put, eA_, e0_, eS_, i64_w, i32_w]; rfl) ?_
       refine pu_ 5 (some 26) (bv 8 47) rfl rfl (any_of HT_.out (by kernel_rfl)) (fun _ _ _ h => h) (by rfl) (fun w' => by go_simp; with_reducible rfl) (by simp only [Act.put, eA_, e0_, eS_, i64_w, i32_w]; rfl) ?_
       refine tk_ 4 (some 25) (bv 8 63) rfl rfl (take_ofW HT_.out HW_.out (by kernel_rfl)) (fun _ _ _ h => h) (by rfl) hHeld (fun w' ⟨s0, s1⟩ => by go_simp; with_reducible rfl) (by simp only [Act.put, eA_, e0_, eS_, i64_w, i32_w]; rfl) ?_
       refine one_ (i := 6) (N := some 27) (bv 8 127) rfl rfl (one_of HT_.out (by kernel_rfl)) (by decide) (fun K hK => ?_)
       refine goes_ Try.func81 (by kernel_rfl) rfl #[.int .i64 t865] (by rfl) rfl rfl (by (try simp only [List.map_toArray, List.map_cons, List.map_nil]); first | done | rfl | (simp only [List.length_drop, List.length_take]; rfl)) ?_
       with_reducible refine (laws_markText.calls k1 t865 t867 _ A7.out).mono ?_
       rintro e w12 ⟨rfl, hb⟩
       refine ⟨_, rfl, ?_⟩
       have n0_ := Aside0.mk (below_step (gB HB.out) hb)
       clear HB
       have HB := n0_
       clear n0_
       (try clear hb)
       (try clear hb2)
       (try clear hk)
       (try clear hi)
       refine hK.out _ _ ⟨((HB.out.cell (World.block_lt_of_cell? w _ hw866_0)).trans hw866_0), ((HB.out.cell (World.block_lt_of_cell? w _ hw866_1)).trans hw866_1)⟩ (fun hHeld => ?_)
       clear hK K
       refine norm_ (a' := ?_) ?_ ?_
       rotate_left
       ·show Act.put _ (some 27) _ = _
        simp only [Act.put, eA_, e0_, eS_, i64_w, i32_w]
        rfl
       refine pu_ 7 (some 28) (bv 8 255) rfl rfl (any_of HT_.out (by kernel_rfl)) (fun _ _ _ h => h) (by rfl) (fun w' => by go_simp; with_reducible rfl) (by simp only [Act.put, eA_, e0_, eS_, i64_w, i32_w]; rfl) ?_
       refine done_ (done_of HT_.out (by kernel_rfl)) ?_
       try go_wp2
       go_ret
       exact ⟨by first | rfl | (simp [errW_none, errW_some] <;> rfl) | (simp [*, errW_none, errW_some] <;> rfl), by repeat (first | (with_reducible first | exact HB.out | apply below_alloc | apply pw_below_drewN | apply below_drew1) | exact HB.out)⟩
    ·rw [if_neg c4] at H
     exact absurd H (by simp)
   ·rw [if_neg c3] at H
    have c3b0 : decide (x5_1 < (l0.length : Int)) = false := decide_eq_false c3
    clear c3
    obtain rfl := Option.some.inj H
    go_wp2
    go_ret
    exact ⟨by first | rfl | (simp [errW_none, errW_some] <;> rfl) | (simp [*, errW_none, errW_some] <;> rfl), by repeat (first | (with_reducible first | exact HB.out | apply below_alloc | apply pw_below_drewN | apply below_drew1) | exact HB.out)⟩

/-! ### laws_heldSolver: function 95 -/
def laws_heldSolver.f (k : Nat) (a0_0 : Int) (a0_1 : Int) (l0_2 : List (S84)) (a1 : Int) : Option (Int) := (laws_heldEqS.f k l0_2 a1).bind fun t869 => (if t869 < 0 then (some (-1)) else (some t869))
theorem laws_heldSolver.mono : ∀ a0 a1 a2 a3 k, LeO (laws_heldSolver.f k a0 a1 a2 a3) (laws_heldSolver.f (k + 1) a0 a1 a2 a3) := by
 intro a0 a1 a2 a3 k
 unfold laws_heldSolver.f
 repeat' first
  | (with_reducible exact laws_heldEqS.mono _ _ _)
  | (with_reducible exact LeO.refl _)
  | (with_reducible exact LeO.none _)
  | (with_reducible refine LeO.ite ?_ ?_)
  | (with_reducible refine LeO.bind ?_ (fun _ => ?_))
  | exact laws_heldEqS.mono _ _ _
  | exact LeO.none _
  | refine LeO.ite ?_ ?_
  | refine LeO.bind ?_ (fun _ => ?_)
set_option maxHeartbeats 8000000 in
set_option maxRecDepth 100000 in
theorem laws_heldSolver.calls (k : Nat) (a0_0 : Int) (a0_1 : Int) (A0_2 : Option Addr) (c0_2 : Nat) (l0_2 : List (S84)) (a1 : Int) (r : Int) (w : World) (hr0_2 : Kd.C k84 w A0_2 l0_2.length l0_2) (hc0_2 : l0_2.length ≤ c0_2) (h : laws_heldSolver.f k a0_0 a0_1 l0_2 a1 = some r) :
 Calls Try.prog 95 #[.agg #[.int .i64 a0_0, .int .i64 a0_1, .slice A0_2 l0_2.length c0_2], .int .i64 a1] w fun e w' => e = .returned (.int .i64 r) ∧ Below w.heap.size w w' := by
 have hu37 := Try.underlying37
 have HR0_2 := Aside0.mk hr0_2
 have HC0_2 := Aside0.mk hc0_2
 clear hr0_2 hc0_2
 have HB := Aside0.mk (Below.refl w.heap.size w)
 have H : ((laws_heldEqS.f k l0_2 a1).bind fun t869 => (if t869 < 0 then (some (-1)) else (some t869))) = some r := h
 clear h
 replace H := bI_ H
 obtain ⟨t869, A30, H⟩ := H
 replace H : (if t869 < 0 then (some (-1)) else (some t869)) = some r := H
 have A3 := Aside0.mk A30
 clear A30
 by_cases c4 : t869 < 0
 ·rw [if_pos c4] at H
  have c4b0 : decide (t869 < 0) = true := decide_eq_true c4
  clear c4
  obtain rfl := Option.some.inj H
  go_enter Try.func95, Try.ntmps95
  go_wp2_with (first | ((with_reducible refine gate_dst (N := 2) rfl ?_); refine box_event ?hg (N := 2) ?hd (cs := #[.int .i64 a0_0, .int .i64 a0_1, .slice A0_2 l0_2.length c0_2]) (t := 37) ?hr ?_; (case hd => rfl); (case hg => rfl); (case hr => first | (go_simp; done) | (go_simp; rfl)); intro gb868 hg w5 hbox hb; have n0_ := Aside0.mk (below_step (gB HB.out) hb); have n1_ := Aside0.mk (hbox); have n2_ := Aside0.mk ((by rw [hg]; exact (below_size (gB HB.out)) : w.heap.size ≤ gb868)); have n3_ := n2_; clear HB; have HB := n0_; have BK868 := n1_; have GW868 := n2_; have GE868 := n3_; clear n0_ n1_ n2_ n3_; clear hb hbox hg; have hcz6_0 := cz_ BK868.out 0 rfl; have hcz6_1 := cz_ BK868.out 1 rfl; have hcz6_2 := cz_ BK868.out 2 rfl; have hfz6_0 := blk_frozen BK868.out 0; have hfz6_1 := blk_frozen BK868.out 1; have hfz6_2 := blk_frozen BK868.out 2) | ((with_reducible refine gate_callee (f := 109) rfl ?_); refine goesL_ (some 8) rfl rfl Try.func109 (by kernel_rfl) rfl #[.slice A0_2 l0_2.length c0_2, .int .i64 a1] rfl (by (try simp only [List.map_toArray, List.map_cons, List.map_nil]); first | done | rfl | (simp only [List.length_drop, List.length_take]; rfl)) ?_; (with_reducible refine (laws_heldEqS.calls k _ _ l0_2 a1 t869 _ ?side1 ?side2 A3.out).mono ?_); (case side1 => exact gC (Kd.C_below HR0_2.out HB.out)); (case side2 => exact HC0_2.out); rintro e w7 ⟨rfl, hb⟩; refine ⟨_, rfl, ?_⟩; have n0_ := Aside0.mk (blk_below (gK BK868.out) hb); have n1_ := Aside0.mk (below_step (gB HB.out) hb); clear BK868; clear HB; have BK868 := n0_; have HB := n1_; clear n0_ n1_; (try clear hb); (try clear hb2); (try clear hk); (try clear hi)))
  go_ret
  exact ⟨by first | rfl | (simp [errW_none, errW_some] <;> rfl) | (simp [*, errW_none, errW_some] <;> rfl), by repeat (first | (with_reducible first | exact HB.out | apply below_alloc | apply pw_below_drewN | apply below_drew1 | refine below_set ?_ GE868.out) | exact HB.out)⟩
 ·rw [if_neg c4] at H
  have c4b0 : decide (t869 < 0) = false := decide_eq_false c4
  clear c4
  obtain rfl := Option.some.inj H
  go_enter Try.func95, Try.ntmps95
  go_wp2_with (first | ((with_reducible refine gate_dst (N := 2) rfl ?_); refine box_event ?hg (N := 2) ?hd (cs := #[.int .i64 a0_0, .int .i64 a0_1, .slice A0_2 l0_2.length c0_2]) (t := 37) ?hr ?_; (case hd => rfl); (case hg => rfl); (case hr => first | (go_simp; done) | (go_simp; rfl)); intro gb868 hg w8 hbox hb; have n0_ := Aside0.mk (below_step (gB HB.out) hb); have n1_ := Aside0.mk (hbox); have n2_ := Aside0.mk ((by rw [hg]; exact (below_size (gB HB.out)) : w.heap.size ≤ gb868)); have n3_ := n2_; clear HB; have HB := n0_; have BK868 := n1_; have GW868 := n2_; have GE868 := n3_; clear n0_ n1_ n2_ n3_; clear hb hbox hg; have hcz9_0 := cz_ BK868.out 0 rfl; have hcz9_1 := cz_ BK868.out 1 rfl; have hcz9_2 := cz_ BK868.out 2 rfl; have hfz9_0 := blk_frozen BK868.out 0; have hfz9_1 := blk_frozen BK868.out 1; have hfz9_2 := blk_frozen BK868.out 2) | ((with_reducible refine gate_callee (f := 109) rfl ?_); refine goesL_ (some 8) rfl rfl Try.func109 (by kernel_rfl) rfl #[.slice A0_2 l0_2.length c0_2, .int .i64 a1] rfl (by (try simp only [List.map_toArray, List.map_cons, List.map_nil]); first | done | rfl | (simp only [List.length_drop, List.length_take]; rfl)) ?_; (with_reducible refine (laws_heldEqS.calls k _ _ l0_2 a1 t869 _ ?side1 ?side2 A3.out).mono ?_); (case side1 => exact gC (Kd.C_below HR0_2.out HB.out)); (case side2 => exact HC0_2.out); rintro e w10 ⟨rfl, hb⟩; refine ⟨_, rfl, ?_⟩; have n0_ := Aside0.mk (blk_below (gK BK868.out) hb); have n1_ := Aside0.mk (below_step (gB HB.out) hb); clear BK868; clear HB; have BK868 := n0_; have HB := n1_; clear n0_ n1_; (try clear hb); (try clear hb2); (try clear hk); (try clear hi)))
  go_ret
  exact ⟨by first | rfl | (simp [errW_none, errW_some] <;> rfl) | (simp [*, errW_none, errW_some] <;> rfl), by repeat (first | (with_reducible first | exact HB.out | apply below_alloc | apply pw_below_drewN | apply below_drew1 | refine below_set ?_ GE868.out) | exact HB.out)⟩

/-! ### laws_heldGetting: function 49 -/
def laws_heldGetting.f (k : Nat) (a0_0 : Int) (a0_1 : Int) (l0_2 : List Int) (l0_3 : List Int) (a0_4 : Int) (a0_5 : Int) (l0_6 : List (S84)) (a1 : Int) : Option (Int) := (laws_heldPlan.f k a0_0 a0_1 l0_2 l0_3 a1).bind fun t871 => (if t871 < 0 then (some (-1)) else ((laws_heldSolver.f k a0_4 a0_5 l0_6 t871).bind fun t872 => (if t872 < 0 then (some (-1)) else (some t872))))
theorem laws_heldGetting.mono : ∀ a0 a1 a2 a3 a4 a5 a6 a7 k, LeO (laws_heldGetting.f k a0 a1 a2 a3 a4 a5 a6 a7) (laws_heldGetting.f (k + 1) a0 a1 a2 a3 a4 a5 a6 a7) := by
 intro a0 a1 a2 a3 a4 a5 a6 a7 k
 unfold laws_heldGetting.f
 repeat' first
  | (with_reducible exact laws_heldPlan.mono _ _ _ _ _ _)
  | (with_reducible exact laws_heldSolver.mono _ _ _ _ _)
  | (with_reducible exact LeO.refl _)
  | (with_reducible exact LeO.none _)
  | (with_reducible refine LeO.ite ?_ ?_)
  | (with_reducible refine LeO.bind ?_ (fun _ => ?_))
  | exact laws_heldPlan.mono _ _ _ _ _ _
  | exact laws_heldSolver.mono _ _ _ _ _
  | exact LeO.none _
  | refine LeO.ite ?_ ?_
  | refine LeO.bind ?_ (fun _ => ?_)
set_option maxHeartbeats 8000000 in
set_option maxRecDepth 100000 in
theorem laws_heldGetting.calls (k : Nat) (a0_0 : Int) (a0_1 : Int) (A0_2 : Option Addr) (c0_2 : Nat) (l0_2 : List Int) (A0_3 : Option Addr) (c0_3 : Nat) (l0_3 : List Int) (a0_4 : Int) (a0_5 : Int) (A0_6 : Option Addr) (c0_6 : Nat) (l0_6 : List (S84)) (a1 : Int) (r : Int) (w : World) (hr0_2 : Kd.C (Kd.int .i64) w A0_2 l0_2.length l0_2) (hc0_2 : l0_2.length ≤ c0_2) (hr0_3 : Kd.C (Kd.int .i64) w A0_3 l0_3.length l0_3) (hc0_3 : l0_3.length ≤ c0_3) (hr0_6 : Kd.C k84 w A0_6 l0_6.length l0_6) (hc0_6 : l0_6.length ≤ c0_6) (h : laws_heldGetting.f k a0_0 a0_1 l0_2 l0_3 a0_4 a0_5 l0_6 a1 = some r) :
 Calls Try.prog 49 #[.agg #[.int .i64 a0_0, .int .i64 a0_1, .slice A0_2 l0_2.length c0_2, .slice A0_3 l0_3.length c0_3, .int .i64 a0_4, .int .i64 a0_5, .slice A0_6 l0_6.length c0_6], .int .i64 a1] w fun e w' => e = .returned (.int .i64 r) ∧ Below w.heap.size w w' := by
 have hu61 := Try.underlying61
 have hu46 := Try.underlying46
 have hu37 := Try.underlying37
 have HR0_2 := Aside0.mk hr0_2
 have HC0_2 := Aside0.mk hc0_2
 clear hr0_2 hc0_2
 have HR0_3 := Aside0.mk hr0_3
 have HC0_3 := Aside0.mk hc0_3
 clear hr0_3 hc0_3
 have HR0_6 := Aside0.mk hr0_6
 have HC0_6 := Aside0.mk hc0_6
 clear hr0_6 hc0_6
 have HB := Aside0.mk (Below.refl w.heap.size w)
 have H : ((laws_heldPlan.f k a0_0 a0_1 l0_2 l0_3 a1).bind fun t871 => (if t871 < 0 then (some (-1)) else ((laws_heldSolver.f k a0_4 a0_5 l0_6 t871).bind fun t872 => (if t872 < 0 then (some (-1)) else (some t872))))) = some r := h
 clear h
 replace H := bI_ H
 obtain ⟨t871, A30, H⟩ := H
 replace H : (if t871 < 0 then (some (-1)) else ((laws_heldSolver.f k a0_4 a0_5 l0_6 t871).bind fun t872 => (if t872 < 0 then (some (-1)) else (some t872)))) = some r := H
 have A3 := Aside0.mk A30
 clear A30
 by_cases c4 : t871 < 0
 ·rw [if_pos c4] at H
  have c4b0 : decide (t871 < 0) = true := decide_eq_true c4
  clear c4
  obtain rfl := Option.some.inj H
  go_enter Try.func49, Try.ntmps49
  go_wp2_with (first | ((with_reducible refine gate_dst (N := 2) rfl ?_); refine box_event ?hg (N := 2) ?hd (cs := #[.int .i64 a0_0, .int .i64 a0_1, .slice A0_2 l0_2.length c0_2, .slice A0_3 l0_3.length c0_3, .int .i64 a0_4, .int .i64 a0_5, .slice A0_6 l0_6.length c0_6]) (t := 61) ?hr ?_; (case hd => rfl); (case hg => rfl); (case hr => first | (go_simp; done) | (go_simp; rfl)); intro gb870 hg w5 hbox hb; have n0_ := Aside0.mk (below_step (gB HB.out) hb); have n1_ := Aside0.mk (hbox); have n2_ := Aside0.mk ((by rw [hg]; exact (below_size (gB HB.out)) : w.heap.size ≤ gb870)); have n3_ := n2_; clear HB; have HB := n0_; have BK870 := n1_; have GW870 := n2_; have GE870 := n3_; clear n0_ n1_ n2_ n3_; clear hb hbox hg; have hcz6_0 := cz_ BK870.out 0 rfl; have hcz6_1 := cz_ BK870.out 1 rfl; have hcz6_2 := cz_ BK870.out 2 rfl; have hcz6_3 := cz_ BK870.out 3 rfl; have hcz6_4 := cz_ BK870.out 4 rfl; have hcz6_5 := cz_ BK870.out 5 rfl; have hcz6_6 := cz_ BK870.out 6 rfl; have hfz6_0 := blk_frozen BK870.out 0; have hfz6_1 := blk_frozen BK870.out 1; have hfz6_2 := blk_frozen BK870.out 2; have hfz6_3 := blk_frozen BK870.out 3; have hfz6_4 := blk_frozen BK870.out 4; have hfz6_5 := blk_frozen BK870.out 5; have hfz6_6 := blk_frozen BK870.out 6) | ((with_reducible refine gate_callee (f := 94) rfl ?_); refine goesL_ (some 8) rfl rfl Try.func94 (by kernel_rfl) rfl #[.agg #[.int .i64 a0_0, .int .i64 a0_1, .slice A0_2 l0_2.length c0_2, .slice A0_3 l0_3.length c0_3], .int .i64 a1] rfl (by (try simp only [List.map_toArray, List.map_cons, List.map_nil]); first | done | rfl | (simp only [List.length_drop, List.length_take]; rfl)) ?_; (with_reducible refine (laws_heldPlan.calls k a0_0 a0_1 _ _ l0_2 _ _ l0_3 a1 t871 _ ?side1 ?side2 ?side3 ?side4 A3.out).mono ?_); (case side1 => exact gC (Kd.C_below HR0_2.out HB.out)); (case side2 => exact HC0_2.out); (case side3 => exact gC (Kd.C_below HR0_3.out HB.out)); (case side4 => exact HC0_3.out); rintro e w7 ⟨rfl, hb⟩; refine ⟨_, rfl, ?_⟩; have n0_ := Aside0.mk (blk_below (gK BK870.out) hb); have n1_ := Aside0.mk (below_step (gB HB.out) hb); clear BK870; clear HB; have BK870 := n0_; have HB := n1_; clear n0_ n1_; (try clear hb); (try clear hb2); (try clear hk); (try clear hi)))
  go_ret
  exact ⟨by first | rfl | (simp [errW_none, errW_some] <;> rfl) | (simp [*, errW_none, errW_some] <;> rfl), by repeat (first | (with_reducible first | exact HB.out | apply below_alloc | apply pw_below_drewN | apply below_drew1 | refine below_set ?_ GE870.out) | exact HB.out)⟩
 ·rw [if_neg c4] at H
  have c4b0 : decide (t871 < 0) = false := decide_eq_false c4
  clear c4
  replace H := bI_ H
  obtain ⟨t872, A80, H⟩ := H
  replace H : (if t872 < 0 then (some (-1)) else (some t872)) = some r := H
  have A8 := Aside0.mk A80
  clear A80
  by_cases c9 : t872 < 0
  ·rw [if_pos c9] at H
   have c9b0 : decide (t872 < 0) = true := decide_eq_true c9
   clear c9
   obtain rfl := Option.some.inj H
   go_enter Try.func49, Try.ntmps49
   go_wp2_with (first | ((with_reducible refine gate_dst (N := 2) rfl ?_); refine box_event ?hg (N := 2) ?hd (cs := #[.int .i64 a0_0, .int .i64 a0_1, .slice A0_2 l0_2.length c0_2, .slice A0_3 l0_3.length c0_3, .int .i64 a0_4, .int .i64 a0_5, .slice A0_6 l0_6.length c0_6]) (t := 61) ?hr ?_; (case hd => rfl); (case hg => rfl); (case hr => first | (go_simp; done) | (go_simp; rfl)); intro gb870 hg w10 hbox hb; have n0_ := Aside0.mk (below_step (gB HB.out) hb); have n1_ := Aside0.mk (hbox); have n2_ := Aside0.mk ((by rw [hg]; exact (below_size (gB HB.out)) : w.heap.size ≤ gb870)); have n3_ := n2_; clear HB; have HB := n0_; have BK870 := n1_; have GW870 := n2_; have GE870 := n3_; clear n0_ n1_ n2_ n3_; clear hb hbox hg; have hcz11_0 := cz_ BK870.out 0 rfl; have hcz11_1 := cz_ BK870.out 1 rfl; have hcz11_2 := cz_ BK870.out 2 rfl; have hcz11_3 := cz_ BK870.out 3 rfl; have hcz11_4 := cz_ BK870.out 4 rfl; have hcz11_5 := cz_ BK870.out 5 rfl; have hcz11_6 := cz_ BK870.out 6 rfl; have hfz11_0 := blk_frozen BK870.out 0; have hfz11_1 := blk_frozen BK870.out 1; have hfz11_2 := blk_frozen BK870.out 2; have hfz11_3 := blk_frozen BK870.out 3; have hfz11_4 := blk_frozen BK870.out 4; have hfz11_5 := blk_frozen BK870.out 5; have hfz11_6 := blk_frozen BK870.out 6) | ((with_reducible refine gate_callee (f := 94) rfl ?_); refine goesL_ (some 8) rfl rfl Try.func94 (by kernel_rfl) rfl #[.agg #[.int .i64 a0_0, .int .i64 a0_1, .slice A0_2 l0_2.length c0_2, .slice A0_3 l0_3.length c0_3], .int .i64 a1] rfl (by (try simp only [List.map_toArray, List.map_cons, List.map_nil]); first | done | rfl | (simp only [List.length_drop, List.length_take]; rfl)) ?_; (with_reducible refine (laws_heldPlan.calls k a0_0 a0_1 _ _ l0_2 _ _ l0_3 a1 t871 _ ?side1 ?side2 ?side3 ?side4 A3.out).mono ?_); (case side1 => exact gC (Kd.C_below HR0_2.out HB.out)); (case side2 => exact HC0_2.out); (case side3 => exact gC (Kd.C_below HR0_3.out HB.out)); (case side4 => exact HC0_3.out); rintro e w12 ⟨rfl, hb⟩; refine ⟨_, rfl, ?_⟩; have n0_ := Aside0.mk (blk_below (gK BK870.out) hb); have n1_ := Aside0.mk (below_step (gB HB.out) hb); clear BK870; clear HB; have BK870 := n0_; have HB := n1_; clear n0_ n1_; (try clear hb); (try clear hb2); (try clear hk); (try clear hi); have hcz13_0 := cz_ BK870.out 0 rfl; have hcz13_1 := cz_ BK870.out 1 rfl; have hcz13_2 := cz_ BK870.out 2 rfl; have hcz13_3 := cz_ BK870.out 3 rfl; have hcz13_4 := cz_ BK870.out 4 rfl; have hcz13_5 := cz_ BK870.out 5 rfl; have hcz13_6 := cz_ BK870.out 6 rfl; have hfz13_0 := blk_frozen BK870.out 0; have hfz13_1 := blk_frozen BK870.out 1; have hfz13_2 := blk_frozen BK870.out 2; have hfz13_3 := blk_frozen BK870.out 3; have hfz13_4 := blk_frozen BK870.out 4; have hfz13_5 := blk_frozen BK870.out 5; have hfz13_6 := blk_frozen BK870.out 6) | ((with_reducible refine gate_callee (f := 95) rfl ?_); refine goesL_ (some 14) rfl rfl Try.func95 (by kernel_rfl) rfl #[.agg #[.int .i64 a0_4, .int .i64 a0_5, .slice A0_6 l0_6.length c0_6], .int .i64 t871] rfl (by (try simp only [List.map_toArray, List.map_cons, List.map_nil]); first | done | rfl | (simp only [List.length_drop, List.length_take]; rfl)) ?_; (with_reducible refine (laws_heldSolver.calls k a0_4 a0_5 _ _ l0_6 t871 t872 _ ?side1 ?side2 A8.out).mono ?_); (case side1 => exact gC (Kd.C_below HR0_6.out HB.out)); (case side2 => exact HC0_6.out); rintro e w14 ⟨rfl, hb⟩; refine ⟨_, rfl, ?_⟩; have n0_ := Aside0.mk (blk_below (gK BK870.out) hb); have n1_ := Aside0.mk (below_step (gB HB.out) hb); clear BK870; clear HB; have BK870 := n0_; have HB := n1_; clear n0_ n1_; (try clear hb); (try clear hb2); (try clear hk); (try clear hi)))
   go_ret
   exact ⟨by first | rfl | (simp [errW_none, errW_some] <;> rfl) | (simp [*, errW_none, errW_some] <;> rfl), by repeat (first | (with_reducible first | exact HB.out | apply below_alloc | apply pw_below_drewN | apply below_drew1 | refine below_set ?_ GE870.out) | exact HB.out)⟩
  ·rw [if_neg c9] at H
   have c9b0 : decide (t872 < 0) = false := decide_eq_false c9
   clear c9
   obtain rfl := Option.some.inj H
   go_enter Try.func49, Try.ntmps49
   go_wp2_with (first | ((with_reducible refine gate_dst (N := 2) rfl ?_); refine box_event ?hg (N := 2) ?hd (cs := #[.int .i64 a0_0, .int .i64 a0_1, .slice A0_2 l0_2.length c0_2, .slice A0_3 l0_3.length c0_3, .int .i64 a0_4, .int .i64 a0_5, .slice A0_6 l0_6.length c0_6]) (t := 61) ?hr ?_; (case hd => rfl); (case hg => rfl); (case hr => first | (go_simp; done) | (go_simp; rfl)); intro gb870 hg w15 hbox hb; have n0_ := Aside0.mk (below_step (gB HB.out) hb); have n1_ := Aside0.mk (hbox); have n2_ := Aside0.mk ((by rw [hg]; exact (below_size (gB HB.out)) : w.heap.size ≤ gb870)); have n3_ := n2_; clear HB; have HB := n0_; have BK870 := n1_; have GW870 := n2_; have GE870 := n3_; clear n0_ n1_ n2_ n3_; clear hb hbox hg; have hcz16_0 := cz_ BK870.out 0 rfl; have hcz16_1 := cz_ BK870.out 1 rfl; have hcz16_2 := cz_ BK870.out 2 rfl; have hcz16_3 := cz_ BK870.out 3 rfl; have hcz16_4 := cz_ BK870.out 4 rfl; have hcz16_5 := cz_ BK870.out 5 rfl; have hcz16_6 := cz_ BK870.out 6 rfl; have hfz16_0 := blk_frozen BK870.out 0; have hfz16_1 := blk_frozen BK870.out 1; have hfz16_2 := blk_frozen BK870.out 2; have hfz16_3 := blk_frozen BK870.out 3; have hfz16_4 := blk_frozen BK870.out 4; have hfz16_5 := blk_frozen BK870.out 5; have hfz16_6 := blk_frozen BK870.out 6) | ((with_reducible refine gate_callee (f := 94) rfl ?_); refine goesL_ (some 8) rfl rfl Try.func94 (by kernel_rfl) rfl #[.agg #[.int .i64 a0_0, .int .i64 a0_1, .slice A0_2 l0_2.length c0_2, .slice A0_3 l0_3.length c0_3], .int .i64 a1] rfl (by (try simp only [List.map_toArray, List.map_cons, List.map_nil]); first | done | rfl | (simp only [List.length_drop, List.length_take]; rfl)) ?_; (with_reducible refine (laws_heldPlan.calls k a0_0 a0_1 _ _ l0_2 _ _ l0_3 a1 t871 _ ?side1 ?side2 ?side3 ?side4 A3.out).mono ?_); (case side1 => exact gC (Kd.C_below HR0_2.out HB.out)); (case side2 => exact HC0_2.out); (case side3 => exact gC (Kd.C_below HR0_3.out HB.out)); (case side4 => exact HC0_3.out); rintro e w17 ⟨rfl, hb⟩; refine ⟨_, rfl, ?_⟩; have n0_ := Aside0.mk (blk_below (gK BK870.out) hb); have n1_ := Aside0.mk (below_step (gB HB.out) hb); clear BK870; clear HB; have BK870 := n0_; have HB := n1_; clear n0_ n1_; (try clear hb); (try clear hb2); (try clear hk); (try clear hi); have hcz18_0 := cz_ BK870.out 0 rfl; have hcz18_1 := cz_ BK870.out 1 rfl; have hcz18_2 := cz_ BK870.out 2 rfl; have hcz18_3 := cz_ BK870.out 3 rfl; have hcz18_4 := cz_ BK870.out 4 rfl; have hcz18_5 := cz_ BK870.out 5 rfl; have hcz18_6 := cz_ BK870.out 6 rfl; have hfz18_0 := blk_frozen BK870.out 0; have hfz18_1 := blk_frozen BK870.out 1; have hfz18_2 := blk_frozen BK870.out 2; have hfz18_3 := blk_frozen BK870.out 3; have hfz18_4 := blk_frozen BK870.out 4; have hfz18_5 := blk_frozen BK870.out 5; have hfz18_6 := blk_frozen BK870.out 6) | ((with_reducible refine gate_callee (f := 95) rfl ?_); refine goesL_ (some 14) rfl rfl Try.func95 (by kernel_rfl) rfl #[.agg #[.int .i64 a0_4, .int .i64 a0_5, .slice A0_6 l0_6.length c0_6], .int .i64 t871] rfl (by (try simp only [List.map_toArray, List.map_cons, List.map_nil]); first | done | rfl | (simp only [List.length_drop, List.length_take]; rfl)) ?_; (with_reducible refine (laws_heldSolver.calls k a0_4 a0_5 _ _ l0_6 t871 t872 _ ?side1 ?side2 A8.out).mono ?_); (case side1 => exact gC (Kd.C_below HR0_6.out HB.out)); (case side2 => exact HC0_6.out); rintro e w19 ⟨rfl, hb⟩; refine ⟨_, rfl, ?_⟩; have n0_ := Aside0.mk (blk_below (gK BK870.out) hb); have n1_ := Aside0.mk (below_step (gB HB.out) hb); clear BK870; clear HB; have BK870 := n0_; have HB := n1_; clear n0_ n1_; (try clear hb); (try clear hb2); (try clear hk); (try clear hi)))
   go_ret
   exact ⟨by first | rfl | (simp [errW_none, errW_some] <;> rfl) | (simp [*, errW_none, errW_some] <;> rfl), by repeat (first | (with_reducible first | exact HB.out | apply below_alloc | apply pw_below_drewN | apply below_drew1 | refine below_set ?_ GE870.out) | exact HB.out)⟩

end Go.Proofs.Ytaeeickboakmgaa.X
