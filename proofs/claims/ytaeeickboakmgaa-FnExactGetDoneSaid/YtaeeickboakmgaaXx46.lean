/- Printed for this claim by the session's program (the kit's printer, several laws in one place): the functions that the law reaches, each as a plain Lean function, and the proof that the Go code comes to its answers. Conditions: none beside those that each theorem states. -/
import Derived.Test.YtaeeickboakmgaaXx0
import Derived.Test.YtaeeickboakmgaaXx15
import Derived.Test.YtaeeickboakmgaaXx37
import Derived.Test.YtaeeickboakmgaaXx43
import Derived.Test.YtaeeickboakmgaaXx44
import Derived.Test.YtaeeickboakmgaaWAll
namespace Go.Proofs.Ytaeeickboakmgaa.X
open Go.RowKit Go.Proofs.YtaeeickboakmgaaW.PrintWords Go.Proofs.YtaeeickboakmgaaW.PrintLast Go.Proofs.YtaeeickboakmgaaW.PrintStep Go.Proofs.YtaeeickboakmgaaW.PrintMore
attribute [local go_sem] max2_int min2_int max_two min_two max_three min_three max_four min_four   -- for this text's walks alone
set_option linter.unusedVariables false
set_option linter.unusedSimpArgs false

/-! ### spec_GetDone: function 54 -/
def spec_GetDone.f (k : Nat) (a0_0 : Int) (a0_1 : Int) (l0_2 : List Int) (l0_3 : List Int) (a0_4 : Int) (a0_5 : Int) (l0_6 : List (S84)) : Option (Bool) := (spec_GetOk.f k a0_0 a0_1 l0_2 l0_3 a0_4 a0_5 l0_6).bind fun t1035 => (if t1035 = true then ((spec_l5Count.f a0_0 a0_1 l0_2 l0_3).bind fun t1036 => (some ((l0_6.length : Int) == t1036))) else (some false))
theorem spec_GetDone.mono : ∀ a0 a1 a2 a3 a4 a5 a6 k, LeO (spec_GetDone.f k a0 a1 a2 a3 a4 a5 a6) (spec_GetDone.f (k + 1) a0 a1 a2 a3 a4 a5 a6) := by
 intro a0 a1 a2 a3 a4 a5 a6 k
 unfold spec_GetDone.f
 repeat' first
  | (with_reducible exact spec_GetOk.mono _ _ _ _ _ _ _ _)
  | (with_reducible exact LeO.refl _)
  | (with_reducible exact LeO.none _)
  | (with_reducible refine LeO.ite ?_ ?_)
  | (with_reducible refine LeO.bind ?_ (fun _ => ?_))
  | exact spec_GetOk.mono _ _ _ _ _ _ _ _
  | exact LeO.none _
  | refine LeO.ite ?_ ?_
  | refine LeO.bind ?_ (fun _ => ?_)
def spec_GetDone.T1 : Bool × List (List Nat × List Nat) := (true, [([], []), ([0], [0]), ([1, 1], [1]), ([2], [2]), ([3, 2], [2, 3]), ([4, 2], [2, 4]), ([5, 2], [2, 5]), ([2], [2]), ([7, 2], [2, 7]), ([8, 2, 2], [2, 8]), ([6, 9, 2], [2, 6, 9]), ([2, 10], [2, 10]), ([11, 9, 0, 1, 2, 3, 4, 5, 6, 7, 8, 9, 10, 11], [11])])
def spec_GetDone.B1 : List Nat := [0, 1, 3, 7, 15, 31, 63, 7, 135, 391, 1023, 2047, 4095]
theorem spec_GetDone.tab1 : rtab .any (opsOf Try.f54 1) = spec_GetDone.T1 := by kernel_rfl
theorem spec_GetDone.bits1 : waitsOk spec_GetDone.T1.2 spec_GetDone.B1 = true := by kernel_rfl
set_option maxHeartbeats 8000000 in
set_option maxRecDepth 100000 in
theorem spec_GetDone.calls (k : Nat) (a0_0 : Int) (a0_1 : Int) (A0_2 : Option Addr) (c0_2 : Nat) (l0_2 : List Int) (A0_3 : Option Addr) (c0_3 : Nat) (l0_3 : List Int) (a0_4 : Int) (a0_5 : Int) (A0_6 : Option Addr) (c0_6 : Nat) (l0_6 : List (S84)) (r : Bool) (w : World) (hr0_2 : Kd.C (Kd.int .i64) w A0_2 l0_2.length l0_2) (hc0_2 : l0_2.length ≤ c0_2) (hr0_3 : Kd.C (Kd.int .i64) w A0_3 l0_3.length l0_3) (hc0_3 : l0_3.length ≤ c0_3) (hr0_6 : Kd.C k84 w A0_6 l0_6.length l0_6) (hc0_6 : l0_6.length ≤ c0_6) (h : spec_GetDone.f k a0_0 a0_1 l0_2 l0_3 a0_4 a0_5 l0_6 = some r) :
 Calls Try.prog 54 #[.agg #[.int .i64 a0_0, .int .i64 a0_1, .slice A0_2 l0_2.length c0_2, .slice A0_3 l0_3.length c0_3, .int .i64 a0_4, .int .i64 a0_5, .slice A0_6 l0_6.length c0_6]] w fun e w' => e = .returned (.bool r) ∧ Below w.heap.size w w' := by
 have hu61 := Try.underlying61
 have hu46 := Try.underlying46
 have HR0_2 := Aside0.mk hr0_2
 have HC0_2 := Aside0.mk hc0_2
 clear hr0_2 hc0_2
 have HR0_3 := Aside0.mk hr0_3
 have HC0_3 := Aside0.mk hc0_3
 clear hr0_3 hc0_3
 have HR0_6 := Aside0.mk hr0_6
 have HC0_6 := Aside0.mk hc0_6
 clear hr0_6 hc0_6
 have HB := Aside0.mk (Below.refl w.heap.size w)
 have H : ((spec_GetOk.f k a0_0 a0_1 l0_2 l0_3 a0_4 a0_5 l0_6).bind fun t1035 => (if t1035 = true then ((spec_l5Count.f a0_0 a0_1 l0_2 l0_3).bind fun t1036 => (some ((l0_6.length : Int) == t1036))) else (some false))) = some r := h
 clear h
 replace H := bI_ H
 obtain ⟨t1035, A20, H⟩ := H
 replace H : (if t1035 = true then ((spec_l5Count.f a0_0 a0_1 l0_2 l0_3).bind fun t1036 => (some ((l0_6.length : Int) == t1036))) else (some false)) = some r := H
 have A2 := Aside0.mk A20
 clear A20
 by_cases c3 : t1035 = true
 ·subst c3
  have H1 : ((spec_l5Count.f a0_0 a0_1 l0_2 l0_3).bind fun t1036 => (some ((l0_6.length : Int) == t1036))) = some r := by rw [if_pos rfl] at H; exact H
  clear H
  have H := H1
  clear H1
  replace H := bI_ H
  obtain ⟨t1036, A40, H⟩ := H
  replace H : (some ((l0_6.length : Int) == t1036)) = some r := H
  have A4 := Aside0.mk A40
  clear A40
  obtain rfl := Option.some.inj H
  go_enter Try.func54, Try.ntmps54
  try go_wp2_with (first | ((with_reducible refine gate_dst (N := 1) rfl ?_); (try (refine gate_guard (by rfl) ?_; dsimp only)); refine box_event ?hg (N := 1) ?hd (cs := #[.int .i64 a0_0, .int .i64 a0_1, .slice A0_2 l0_2.length c0_2, .slice A0_3 l0_3.length c0_3, .int .i64 a0_4, .int .i64 a0_5, .slice A0_6 l0_6.length c0_6]) (t := 61) ?hr ?_; (case hd => rfl); (case hg => rfl); (case hr => first | (go_simp; done) | (go_simp; rfl)); intro gb1034 hg w5 hbox hb; have n0_ := Aside0.mk (below_step (gB HB.out) hb); have n1_ := Aside0.mk (hbox); have n2_ := Aside0.mk ((by rw [hg]; exact (below_size (gB HB.out)) : w.heap.size ≤ gb1034)); have n3_ := n2_; clear HB; have HB := n0_; have BK1034 := n1_; have GW1034 := n2_; have GE1034 := n3_; clear n0_ n1_ n2_ n3_; clear hb hbox hg))
  have n0_ := Aside0.mk (blk_drew BK1034.out)
  have n1_ := Aside0.mk (below_drew1 HB.out)
  clear BK1034
  clear HB
  have BK1034 := n0_
  have HB := n1_
  clear n0_ n1_
  refine start_ (n := 13) (S := fun w' => w'.cell? ⟨gb1034, 0, none⟩ = some (.int .i64 a0_0) ∧ w'.cell? ⟨gb1034, 1, none⟩ = some (.int .i64 a0_1) ∧ w'.cell? ⟨gb1034, 2, none⟩ = some (.slice A0_2 l0_2.length c0_2) ∧ w'.cell? ⟨gb1034, 3, none⟩ = some (.slice A0_3 l0_3.length c0_3) ∧ w'.cell? ⟨gb1034, 4, none⟩ = some (.int .i64 a0_4) ∧ w'.cell? ⟨gb1034, 5, none⟩ = some (.int .i64 a0_5) ∧ w'.cell? ⟨gb1034, 6, none⟩ = some (.slice A0_6 l0_6.length c0_6)) (ds := []) (.replicate 13 false) (by kernel_rfl) rfl rfl ⟨cz_ BK1034.out 0 rfl, cz_ BK1034.out 1 rfl, cz_ BK1034.out 2 rfl, cz_ BK1034.out 3 rfl, cz_ BK1034.out 4 rfl, cz_ BK1034.out 5 rfl, cz_ BK1034.out 6 rfl⟩ (fun hHeld => ?_); refine with_tabW spec_GetDone.tab1 spec_GetDone.bits1 (fun HT_ HW_ => ?_)
  generalize w5.drew = w6 at BK1034 HB hHeld ⊢
  refine tk_ 0 (some 3) (bv 13 1) rfl rfl (take_ofW HT_.out HW_.out (by kernel_rfl)) (fun _ _ _ h => h) (by rfl) hHeld (fun w' ⟨s0, s1, s2, s3, s4, s5, s6⟩ => by go_simp; with_reducible rfl) (by simp only [Act.put, eA_, e0_, eS_, i64_w, i32_w]; rfl) ?_
  refine one_ (i := 1) (N := some 4) (bv 13 3) rfl rfl (one_of HT_.out (by kernel_rfl)) (by decide) (fun K hK => ?_)
  refine goes_ Try.func51 (by kernel_rfl) rfl #[.agg #[.int .i64 a0_0, .int .i64 a0_1, .slice A0_2 l0_2.length c0_2, .slice A0_3 l0_3.length c0_3, .int .i64 a0_4, .int .i64 a0_5, .slice A0_6 l0_6.length c0_6]] (by rfl) rfl rfl (by (try simp only [List.map_toArray, List.map_cons, List.map_nil]); first | done | rfl | (simp only [List.length_drop, List.length_take]; rfl)) ?_
  with_reducible refine (spec_GetOk.calls k a0_0 a0_1 _ _ l0_2 _ _ l0_3 a0_4 a0_5 _ _ l0_6 true _ ?side1 ?side2 ?side3 ?side4 ?side5 ?side6 A2.out).mono ?_
  (case side1 => exact gC (Kd.C_below HR0_2.out HB.out))
  (case side2 => exact HC0_2.out)
  (case side3 => exact gC (Kd.C_below HR0_3.out HB.out))
  (case side4 => exact HC0_3.out)
  (case side5 => exact gC (Kd.C_below HR0_6.out HB.out))
  (case side6 => exact HC0_6.out)
  rintro e w7 ⟨rfl, hb⟩
  refine ⟨_, rfl, ?_⟩
  have n0_ := Aside0.mk (blk_below (gK BK1034.out) hb)
  have n1_ := Aside0.mk (below_step (gB HB.out) hb)
  clear BK1034
  clear HB
  have BK1034 := n0_
  have HB := n1_
  clear n0_ n1_
  (try clear hb)
  (try clear hb2)
  (try clear hk)
  (try clear hi)
  refine hK.out _ _ ⟨cz_ BK1034.out 0 rfl, cz_ BK1034.out 1 rfl, cz_ BK1034.out 2 rfl, cz_ BK1034.out 3 rfl, cz_ BK1034.out 4 rfl, cz_ BK1034.out 5 rfl, cz_ BK1034.out 6 rfl⟩ (fun hHeld => ?_)
  clear hK K
  refine norm_ (a' := ?_) ?_ ?_
  rotate_left
  ·show Act.put _ (some 4) _ = _
   simp only [Act.put, eA_, e0_, eS_, i64_w, i32_w]
   rfl
  refine pu_ 2 (some 5) (bv 13 7) rfl rfl (any_of HT_.out (by kernel_rfl)) (fun _ _ _ h => h) (by rfl) (fun w' => by go_simp; with_reducible rfl) (by simp only [Act.put, eA_, e0_, eS_, i64_w, i32_w]; rfl) ?_
  refine pu_ 3 (some 6) (bv 13 15) rfl rfl (any_of HT_.out (by kernel_rfl)) (fun _ _ _ h => h) (by rfl) (fun w' => by go_simp; with_reducible rfl) (by simp only [Act.put, eA_, e0_, eS_, i64_w, i32_w]; rfl) ?_
  refine pu_ 4 (some 7) (bv 13 31) rfl rfl (any_of HT_.out (by kernel_rfl)) (fun _ _ _ h => h) (by rfl) (fun w' => by go_simp; with_reducible rfl) (by simp only [Act.put, eA_, e0_, eS_, i64_w, i32_w]; rfl) ?_
  refine pu_ 7 (some 10) (bv 13 159) rfl rfl (any_of HT_.out (by kernel_rfl)) (fun _ _ _ h => h) (by rfl) (fun w' => by go_simp; with_reducible rfl) (by simp only [Act.put, eA_, e0_, eS_, i64_w, i32_w]; rfl) ?_
  refine tk_ 5 (some 8) (bv 13 191) rfl rfl (take_ofW HT_.out HW_.out (by kernel_rfl)) (fun _ _ _ h => h) (by rfl) hHeld (fun w' ⟨s0, s1, s2, s3, s4, s5, s6⟩ => by go_simp; with_reducible rfl) (by simp only [Act.put, eA_, e0_, eS_, i64_w, i32_w]; rfl) ?_
  refine pu_ 6 (some 9) (bv 13 255) rfl rfl (any_of HT_.out (by kernel_rfl)) (fun _ _ _ h => h) (by rfl) (fun w' => by go_simp; with_reducible rfl) (by simp only [Act.put, eA_, e0_, eS_, i64_w, i32_w]; rfl) ?_
  refine tk_ 8 (some 11) (bv 13 511) rfl rfl (take_ofW HT_.out HW_.out (by kernel_rfl)) (fun _ _ _ h => h) (by rfl) hHeld (fun w' ⟨s0, s1, s2, s3, s4, s5, s6⟩ => by go_simp; with_reducible rfl) (by simp only [Act.put, eA_, e0_, eS_, i64_w, i32_w]; rfl) ?_
  refine one_ (i := 9) (N := some 12) (bv 13 1023) rfl rfl (one_of HT_.out (by kernel_rfl)) (by decide) (fun K hK => ?_)
  refine goes_ Try.func90 (by kernel_rfl) rfl #[.agg #[.int .i64 a0_0, .int .i64 a0_1, .slice A0_2 l0_2.length c0_2, .slice A0_3 l0_3.length c0_3]] (by rfl) rfl rfl (by (try simp only [List.map_toArray, List.map_cons, List.map_nil]); first | done | rfl | (simp only [List.length_drop, List.length_take]; rfl)) ?_
  with_reducible refine (spec_l5Count.calls a0_0 a0_1 _ _ l0_2 _ _ l0_3 t1036 _ ?side1 ?side2 ?side3 ?side4 A4.out).mono ?_
  (case side1 => exact gC (Kd.C_below HR0_2.out HB.out))
  (case side2 => exact HC0_2.out)
  (case side3 => exact gC (Kd.C_below HR0_3.out HB.out))
  (case side4 => exact HC0_3.out)
  rintro e w8 ⟨rfl, hb⟩
  refine ⟨_, rfl, ?_⟩
  have n0_ := Aside0.mk (blk_below (gK BK1034.out) hb)
  have n1_ := Aside0.mk (below_step (gB HB.out) hb)
  clear BK1034
  clear HB
  have BK1034 := n0_
  have HB := n1_
  clear n0_ n1_
  (try clear hb)
  (try clear hb2)
  (try clear hk)
  (try clear hi)
  refine hK.out _ _ ⟨cz_ BK1034.out 0 rfl, cz_ BK1034.out 1 rfl, cz_ BK1034.out 2 rfl, cz_ BK1034.out 3 rfl, cz_ BK1034.out 4 rfl, cz_ BK1034.out 5 rfl, cz_ BK1034.out 6 rfl⟩ (fun hHeld => ?_)
  clear hK K
  refine norm_ (a' := ?_) ?_ ?_
  rotate_left
  ·show Act.put _ (some 12) _ = _
   simp only [Act.put, eA_, e0_, eS_, i64_w, i32_w]
   rfl
  refine pu_ 10 (some 13) (bv 13 2047) rfl rfl (any_of HT_.out (by kernel_rfl)) (fun _ _ _ h => h) (by rfl) (fun w' => by go_simp; with_reducible rfl) (by simp only [Act.put, eA_, e0_, eS_, i64_w, i32_w]; rfl) ?_
  refine pu_ 11 (some 14) (bv 13 4095) rfl rfl (any_of HT_.out (by kernel_rfl)) (fun _ _ _ h => h) (by rfl) (fun w' => by go_simp; with_reducible rfl) (by simp only [Act.put, eA_, e0_, eS_, i64_w, i32_w]; rfl) ?_
  refine pu_ 12 (some 2) (bv 13 8191) rfl rfl (any_of HT_.out (by kernel_rfl)) (fun _ _ _ h => h) (by rfl) (fun w' => by go_simp; with_reducible rfl) (by simp only [Act.put, eA_, e0_, eS_, i64_w, i32_w]; rfl) ?_
  refine done_ (done_of HT_.out (by kernel_rfl)) ?_
  try go_wp2
  go_ret
  exact ⟨by first | rfl | (simp [errW_none, errW_some] <;> rfl) | (simp [*, errW_none, errW_some] <;> rfl), by repeat (first | (with_reducible first | exact HB.out | apply below_alloc | apply pw_below_drewN | apply below_drew1 | refine below_set ?_ GE1034.out) | exact HB.out)⟩
 ·replace c3 := Bool.eq_false_iff.mpr c3
  subst c3
  have H1 : (some false) = some r := by rw [if_neg (show ¬ (false = true) by decide)] at H; exact H
  clear H
  have H := H1
  clear H1
  obtain rfl := Option.some.inj H
  go_enter Try.func54, Try.ntmps54
  try go_wp2_with (first | ((with_reducible refine gate_dst (N := 1) rfl ?_); (try (refine gate_guard (by rfl) ?_; dsimp only)); refine box_event ?hg (N := 1) ?hd (cs := #[.int .i64 a0_0, .int .i64 a0_1, .slice A0_2 l0_2.length c0_2, .slice A0_3 l0_3.length c0_3, .int .i64 a0_4, .int .i64 a0_5, .slice A0_6 l0_6.length c0_6]) (t := 61) ?hr ?_; (case hd => rfl); (case hg => rfl); (case hr => first | (go_simp; done) | (go_simp; rfl)); intro gb1034 hg w9 hbox hb; have n0_ := Aside0.mk (below_step (gB HB.out) hb); have n1_ := Aside0.mk (hbox); have n2_ := Aside0.mk ((by rw [hg]; exact (below_size (gB HB.out)) : w.heap.size ≤ gb1034)); have n3_ := n2_; clear HB; have HB := n0_; have BK1034 := n1_; have GW1034 := n2_; have GE1034 := n3_; clear n0_ n1_ n2_ n3_; clear hb hbox hg))
  have n0_ := Aside0.mk (blk_drew BK1034.out)
  have n1_ := Aside0.mk (below_drew1 HB.out)
  clear BK1034
  clear HB
  have BK1034 := n0_
  have HB := n1_
  clear n0_ n1_
  refine start_ (n := 13) (S := fun w' => w'.cell? ⟨gb1034, 0, none⟩ = some (.int .i64 a0_0) ∧ w'.cell? ⟨gb1034, 1, none⟩ = some (.int .i64 a0_1) ∧ w'.cell? ⟨gb1034, 2, none⟩ = some (.slice A0_2 l0_2.length c0_2) ∧ w'.cell? ⟨gb1034, 3, none⟩ = some (.slice A0_3 l0_3.length c0_3) ∧ w'.cell? ⟨gb1034, 4, none⟩ = some (.int .i64 a0_4) ∧ w'.cell? ⟨gb1034, 5, none⟩ = some (.int .i64 a0_5) ∧ w'.cell? ⟨gb1034, 6, none⟩ = some (.slice A0_6 l0_6.length c0_6)) (ds := []) (.replicate 13 false) (by kernel_rfl) rfl rfl ⟨cz_ BK1034.out 0 rfl, cz_ BK1034.out 1 rfl, cz_ BK1034.out 2 rfl, cz_ BK1034.out 3 rfl, cz_ BK1034.out 4 rfl, cz_ BK1034.out 5 rfl, cz_ BK1034.out 6 rfl⟩ (fun hHeld => ?_); refine with_tabW spec_GetDone.tab1 spec_GetDone.bits1 (fun HT_ HW_ => ?_)
  generalize w9.drew = w10 at BK1034 HB hHeld ⊢
  refine tk_ 0 (some 3) (bv 13 1) rfl rfl (take_ofW HT_.out HW_.out (by kernel_rfl)) (fun _ _ _ h => h) (by rfl) hHeld (fun w' ⟨s0, s1, s2, s3, s4, s5, s6⟩ => by go_simp; with_reducible rfl) (by simp only [Act.put, eA_, e0_, eS_, i64_w, i32_w]; rfl) ?_
  refine one_ (i := 1) (N := some 4) (bv 13 3) rfl rfl (one_of HT_.out (by kernel_rfl)) (by decide) (fun K hK => ?_)
  refine goes_ Try.func51 (by kernel_rfl) rfl #[.agg #[.int .i64 a0_0, .int .i64 a0_1, .slice A0_2 l0_2.length c0_2, .slice A0_3 l0_3.length c0_3, .int .i64 a0_4, .int .i64 a0_5, .slice A0_6 l0_6.length c0_6]] (by rfl) rfl rfl (by (try simp only [List.map_toArray, List.map_cons, List.map_nil]); first | done | rfl | (simp only [List.length_drop, List.length_take]; rfl)) ?_
  with_reducible refine (spec_GetOk.calls k a0_0 a0_1 _ _ l0_2 _ _ l0_3 a0_4 a0_5 _ _ l0_6 false _ ?side1 ?side2 ?side3 ?side4 ?side5 ?side6 A2.out).mono ?_
  (case side1 => exact gC (Kd.C_below HR0_2.out HB.out))
  (case side2 => exact HC0_2.out)
  (case side3 => exact gC (Kd.C_below HR0_3.out HB.out))
  (case side4 => exact HC0_3.out)
  (case side5 => exact gC (Kd.C_below HR0_6.out HB.out))
  (case side6 => exact HC0_6.out)
  rintro e w11 ⟨rfl, hb⟩
  refine ⟨_, rfl, ?_⟩
  have n0_ := Aside0.mk (blk_below (gK BK1034.out) hb)
  have n1_ := Aside0.mk (below_step (gB HB.out) hb)
  clear BK1034
  clear HB
  have BK1034 := n0_
  have HB := n1_
  clear n0_ n1_
  (try clear hb)
  (try clear hb2)
  (try clear hk)
  (try clear hi)
  refine hK.out _ _ ⟨cz_ BK1034.out 0 rfl, cz_ BK1034.out 1 rfl, cz_ BK1034.out 2 rfl, cz_ BK1034.out 3 rfl, cz_ BK1034.out 4 rfl, cz_ BK1034.out 5 rfl, cz_ BK1034.out 6 rfl⟩ (fun hHeld => ?_)
  clear hK K
  refine norm_ (a' := ?_) ?_ ?_
  rotate_left
  ·show Act.put _ (some 4) _ = _
   simp only [Act.put, eA_, e0_, eS_, i64_w, i32_w]
   rfl
  refine pu_ 2 (some 5) (bv 13 7) rfl rfl (any_of HT_.out (by kernel_rfl)) (fun _ _ _ h => h) (by rfl) (fun w' => by go_simp; with_reducible rfl) (by simp only [Act.put, eA_, e0_, eS_, i64_w, i32_w]; rfl) ?_
  refine sk_ 8 [3, 4, 5, 6, 7, 8, 9, 10] [6, 7, 8, 9, 10, 11, 12, 13] (bv 13 2047) rfl (skB_of HT_.out (by kernel_rfl)) (by kernel_rfl) (fun _ _ _ _ _ h => h) (by simp only [putU, Act.put, eA_, e0_, eS_]; rfl) ?_
  refine pu_ 11 (some 14) (bv 13 4095) rfl rfl (any_of HT_.out (by kernel_rfl)) (fun _ _ _ h => h) (by rfl) (fun w' => by go_simp; with_reducible rfl) (by simp only [Act.put, eA_, e0_, eS_, i64_w, i32_w]; rfl) ?_
  refine pu_ 12 (some 2) (bv 13 8191) rfl rfl (any_of HT_.out (by kernel_rfl)) (fun _ _ _ h => h) (by rfl) (fun w' => by go_simp; with_reducible rfl) (by simp only [Act.put, eA_, e0_, eS_, i64_w, i32_w]; rfl) ?_
  refine done_ (done_of HT_.out (by kernel_rfl)) ?_
  try go_wp2
  go_ret
  exact ⟨by first | rfl | (simp [errW_none, errW_some] <;> rfl) | (simp [*, errW_none, errW_some] <;> rfl), by repeat (first | (with_reducible first | exact HB.out | apply below_alloc | apply pw_below_drewN | apply below_drew1 | refine below_set ?_ GE1034.out) | exact HB.out)⟩

/-! ### impl_Getting_done: function 96 -/
def impl_Getting_done.f (k : Nat) (a0_0 : Int) (a0_1 : Int) (l0_2 : List Int) (l0_3 : List Int) (a0_4 : Int) (a0_5 : Int) (l0_6 : List (S84)) : Option (Bool) := (impl_Solver_prefix.f k a0_4 a0_5 l0_6).bind fun t1038 => (some (t1038 == a0_4))
theorem impl_Getting_done.mono : ∀ a0 a1 a2 a3 a4 a5 a6 k, LeO (impl_Getting_done.f k a0 a1 a2 a3 a4 a5 a6) (impl_Getting_done.f (k + 1) a0 a1 a2 a3 a4 a5 a6) := by
 intro a0 a1 a2 a3 a4 a5 a6 k
 unfold impl_Getting_done.f
 repeat' first
  | (with_reducible exact impl_Solver_prefix.mono _ _ _ _)
  | (with_reducible exact LeO.refl _)
  | (with_reducible exact LeO.none _)
  | (with_reducible refine LeO.ite ?_ ?_)
  | (with_reducible refine LeO.bind ?_ (fun _ => ?_))
  | exact impl_Solver_prefix.mono _ _ _ _
  | exact LeO.none _
  | refine LeO.ite ?_ ?_
  | refine LeO.bind ?_ (fun _ => ?_)
def impl_Getting_done.T1 : Bool × List (List Nat × List Nat) := (true, [([], []), ([0], [0]), ([1], [1]), ([], []), ([3], [3]), ([4], [4]), ([2, 5], [2, 5]), ([6, 2, 0, 1, 2, 3, 4, 5, 6], [6])])
def impl_Getting_done.B1 : List Nat := [0, 1, 3, 0, 8, 24, 63, 127]
theorem impl_Getting_done.tab1 : rtab .any (opsOf Try.f96 1) = impl_Getting_done.T1 := by kernel_rfl
theorem impl_Getting_done.bits1 : waitsOk impl_Getting_done.T1.2 impl_Getting_done.B1 = true := by kernel_rfl
set_option maxHeartbeats 8000000 in
set_option maxRecDepth 100000 in
theorem impl_Getting_done.calls (k : Nat) (a0_0 : Int) (a0_1 : Int) (A0_2 : Option Addr) (c0_2 : Nat) (l0_2 : List Int) (A0_3 : Option Addr) (c0_3 : Nat) (l0_3 : List Int) (a0_4 : Int) (a0_5 : Int) (A0_6 : Option Addr) (c0_6 : Nat) (l0_6 : List (S84)) (r : Bool) (w : World) (hr0_2 : Kd.C (Kd.int .i64) w A0_2 l0_2.length l0_2) (hc0_2 : l0_2.length ≤ c0_2) (hr0_3 : Kd.C (Kd.int .i64) w A0_3 l0_3.length l0_3) (hc0_3 : l0_3.length ≤ c0_3) (hr0_6 : Kd.C k84 w A0_6 l0_6.length l0_6) (hc0_6 : l0_6.length ≤ c0_6) (h : impl_Getting_done.f k a0_0 a0_1 l0_2 l0_3 a0_4 a0_5 l0_6 = some r) :
 Calls Try.prog 96 #[.agg #[.int .i64 a0_0, .int .i64 a0_1, .slice A0_2 l0_2.length c0_2, .slice A0_3 l0_3.length c0_3, .int .i64 a0_4, .int .i64 a0_5, .slice A0_6 l0_6.length c0_6]] w fun e w' => e = .returned (.bool r) ∧ Below w.heap.size w w' := by
 have hu61 := Try.underlying61
 have hu37 := Try.underlying37
 have HR0_2 := Aside0.mk hr0_2
 have HC0_2 := Aside0.mk hc0_2
 clear hr0_2 hc0_2
 have HR0_3 := Aside0.mk hr0_3
 have HC0_3 := Aside0.mk hc0_3
 clear hr0_3 hc0_3
 have HR0_6 := Aside0.mk hr0_6
 have HC0_6 := Aside0.mk hc0_6
 clear hr0_6 hc0_6
 have HB := Aside0.mk (Below.refl w.heap.size w)
 have H : ((impl_Solver_prefix.f k a0_4 a0_5 l0_6).bind fun t1038 => (some (t1038 == a0_4))) = some r := h
 clear h
 replace H := bI_ H
 obtain ⟨t1038, A20, H⟩ := H
 replace H : (some (t1038 == a0_4)) = some r := H
 have A2 := Aside0.mk A20
 clear A20
 obtain rfl := Option.some.inj H
 go_enter Try.func96, Try.ntmps96
 try go_wp2_with (first | ((with_reducible refine gate_dst (N := 1) rfl ?_); refine box_event ?hg (N := 1) ?hd (cs := #[.int .i64 a0_0, .int .i64 a0_1, .slice A0_2 l0_2.length c0_2, .slice A0_3 l0_3.length c0_3, .int .i64 a0_4, .int .i64 a0_5, .slice A0_6 l0_6.length c0_6]) (t := 61) ?hr ?_; (case hd => rfl); (case hg => rfl); (case hr => first | (go_simp; done) | (go_simp; rfl)); intro gb1037 hg w3 hbox hb; have n0_ := Aside0.mk (below_step (gB HB.out) hb); have n1_ := Aside0.mk (hbox); have n2_ := Aside0.mk ((by rw [hg]; exact (below_size (gB HB.out)) : w.heap.size ≤ gb1037)); have n3_ := n2_; clear HB; have HB := n0_; have BK1037 := n1_; have GW1037 := n2_; have GE1037 := n3_; clear n0_ n1_ n2_ n3_; clear hb hbox hg))
 have n0_ := Aside0.mk (blk_drew BK1037.out)
 have n1_ := Aside0.mk (below_drew1 HB.out)
 clear BK1037
 clear HB
 have BK1037 := n0_
 have HB := n1_
 clear n0_ n1_
 refine start_ (n := 8) (S := fun w' => w'.cell? ⟨gb1037, 0, none⟩ = some (.int .i64 a0_0) ∧ w'.cell? ⟨gb1037, 1, none⟩ = some (.int .i64 a0_1) ∧ w'.cell? ⟨gb1037, 2, none⟩ = some (.slice A0_2 l0_2.length c0_2) ∧ w'.cell? ⟨gb1037, 3, none⟩ = some (.slice A0_3 l0_3.length c0_3) ∧ w'.cell? ⟨gb1037, 4, none⟩ = some (.int .i64 a0_4) ∧ w'.cell? ⟨gb1037, 5, none⟩ = some (.int .i64 a0_5) ∧ w'.cell? ⟨gb1037, 6, none⟩ = some (.slice A0_6 l0_6.length c0_6)) (ds := []) (.replicate 8 false) (by kernel_rfl) rfl rfl ⟨cz_ BK1037.out 0 rfl, cz_ BK1037.out 1 rfl, cz_ BK1037.out 2 rfl, cz_ BK1037.out 3 rfl, cz_ BK1037.out 4 rfl, cz_ BK1037.out 5 rfl, cz_ BK1037.out 6 rfl⟩ (fun hHeld => ?_); refine with_tabW impl_Getting_done.tab1 impl_Getting_done.bits1 (fun HT_ HW_ => ?_)
 generalize w3.drew = w4 at BK1037 HB hHeld ⊢
 refine pu_ 0 (some 3) (bv 8 1) rfl rfl (any_of HT_.out (by kernel_rfl)) (fun _ _ _ h => h) (by rfl) (fun w' => by go_simp; with_reducible rfl) (by simp only [Act.put, eA_, e0_, eS_, i64_w, i32_w]; rfl) ?_
 refine pu_ 3 (some 6) (bv 8 9) rfl rfl (any_of HT_.out (by kernel_rfl)) (fun _ _ _ h => h) (by rfl) (fun w' => by go_simp; with_reducible rfl) (by simp only [Act.put, eA_, e0_, eS_, i64_w, i32_w]; rfl) ?_
 refine pu_ 4 (some 7) (bv 8 25) rfl rfl (any_of HT_.out (by kernel_rfl)) (fun _ _ _ h => h) (by rfl) (fun w' => by go_simp; with_reducible rfl) (by simp only [Act.put, eA_, e0_, eS_, i64_w, i32_w]; rfl) ?_
 refine tk_ 1 (some 4) (bv 8 27) rfl rfl (take_ofW HT_.out HW_.out (by kernel_rfl)) (fun _ _ _ h => h) (by rfl) hHeld (fun w' ⟨s0, s1, s2, s3, s4, s5, s6⟩ => by go_simp; with_reducible rfl) (by simp only [Act.put, eA_, e0_, eS_, i64_w, i32_w]; rfl) ?_
 refine tk_ 5 (some 8) (bv 8 59) rfl rfl (take_ofW HT_.out HW_.out (by kernel_rfl)) (fun _ _ _ h => h) (by rfl) hHeld (fun w' ⟨s0, s1, s2, s3, s4, s5, s6⟩ => by go_simp; with_reducible rfl) (by simp only [Act.put, eA_, e0_, eS_, i64_w, i32_w]; rfl) ?_
 refine one_ (i := 2) (N := some 5) (bv 8 63) rfl rfl (one_of HT_.out (by kernel_rfl)) (by decide) (fun K hK => ?_)
 refine goes_ Try.func87 (by kernel_rfl) rfl #[.agg #[.int .i64 a0_4, .int .i64 a0_5, .slice A0_6 l0_6.length c0_6]] (by rfl) rfl rfl (by (try simp only [List.map_toArray, List.map_cons, List.map_nil]); first | done | rfl | (simp only [List.length_drop, List.length_take]; rfl)) ?_
 with_reducible refine (impl_Solver_prefix.calls k a0_4 a0_5 _ _ l0_6 t1038 _ ?side1 ?side2 A2.out).mono ?_
 (case side1 => exact gC (Kd.C_below HR0_6.out HB.out))
 (case side2 => exact HC0_6.out)
 rintro e w5 ⟨rfl, hb⟩
 refine ⟨_, rfl, ?_⟩
 have n0_ := Aside0.mk (blk_below (gK BK1037.out) hb)
 have n1_ := Aside0.mk (below_step (gB HB.out) hb)
 clear BK1037
 clear HB
 have BK1037 := n0_
 have HB := n1_
 clear n0_ n1_
 (try clear hb)
 (try clear hb2)
 (try clear hk)
 (try clear hi)
 refine hK.out _ _ ⟨cz_ BK1037.out 0 rfl, cz_ BK1037.out 1 rfl, cz_ BK1037.out 2 rfl, cz_ BK1037.out 3 rfl, cz_ BK1037.out 4 rfl, cz_ BK1037.out 5 rfl, cz_ BK1037.out 6 rfl⟩ (fun hHeld => ?_)
 clear hK K
 refine norm_ (a' := ?_) ?_ ?_
 rotate_left
 ·show Act.put _ (some 5) _ = _
  simp only [Act.put, eA_, e0_, eS_, i64_w, i32_w]
  rfl
 refine pu_ 6 (some 9) (bv 8 127) rfl rfl (any_of HT_.out (by kernel_rfl)) (fun _ _ _ h => h) (by rfl) (fun w' => by go_simp; with_reducible rfl) (by simp only [Act.put, eA_, e0_, eS_, i64_w, i32_w]; rfl) ?_
 refine pu_ 7 (some 2) (bv 8 255) rfl rfl (any_of HT_.out (by kernel_rfl)) (fun _ _ _ h => h) (by rfl) (fun w' => by go_simp; with_reducible rfl) (by simp only [Act.put, eA_, e0_, eS_, i64_w, i32_w]; rfl) ?_
 refine done_ (done_of HT_.out (by kernel_rfl)) ?_
 try go_wp2
 go_ret
 exact ⟨by first | rfl | (simp [errW_none, errW_some] <;> rfl) | (simp [*, errW_none, errW_some] <;> rfl), by repeat (first | (with_reducible first | exact HB.out | apply below_alloc | apply pw_below_drewN | apply below_drew1 | refine below_set ?_ GE1037.out) | exact HB.out)⟩

/-! ### impl_GetDone: function 55 -/
def impl_GetDone.f (k : Nat) (a0_0 : Int) (a0_1 : Int) (l0_2 : List Int) (l0_3 : List Int) (a0_4 : Int) (a0_5 : Int) (l0_6 : List (S84)) : Option (Bool) := (impl_GetOk.f k a0_0 a0_1 l0_2 l0_3 a0_4 a0_5 l0_6).bind fun t1040 => (if t1040 = true then ((impl_Getting_done.f k a0_0 a0_1 l0_2 l0_3 a0_4 a0_5 l0_6).bind fun t1041 => (some t1041)) else (some false))
theorem impl_GetDone.mono : ∀ a0 a1 a2 a3 a4 a5 a6 k, LeO (impl_GetDone.f k a0 a1 a2 a3 a4 a5 a6) (impl_GetDone.f (k + 1) a0 a1 a2 a3 a4 a5 a6) := by
 intro a0 a1 a2 a3 a4 a5 a6 k
 unfold impl_GetDone.f
 repeat' first
  | (with_reducible exact impl_GetOk.mono _ _ _ _ _ _ _ _)
  | (with_reducible exact impl_Getting_done.mono _ _ _ _ _ _ _ _)
  | (with_reducible exact LeO.refl _)
  | (with_reducible exact LeO.none _)
  | (with_reducible refine LeO.ite ?_ ?_)
  | (with_reducible refine LeO.bind ?_ (fun _ => ?_))
  | exact impl_GetOk.mono _ _ _ _ _ _ _ _
  | exact impl_Getting_done.mono _ _ _ _ _ _ _ _
  | exact LeO.none _
  | refine LeO.ite ?_ ?_
  | refine LeO.bind ?_ (fun _ => ?_)
set_option maxHeartbeats 8000000 in
set_option maxRecDepth 100000 in
theorem impl_GetDone.calls (k : Nat) (a0_0 : Int) (a0_1 : Int) (A0_2 : Option Addr) (c0_2 : Nat) (l0_2 : List Int) (A0_3 : Option Addr) (c0_3 : Nat) (l0_3 : List Int) (a0_4 : Int) (a0_5 : Int) (A0_6 : Option Addr) (c0_6 : Nat) (l0_6 : List (S84)) (r : Bool) (w : World) (hr0_2 : Kd.C (Kd.int .i64) w A0_2 l0_2.length l0_2) (hc0_2 : l0_2.length ≤ c0_2) (hr0_3 : Kd.C (Kd.int .i64) w A0_3 l0_3.length l0_3) (hc0_3 : l0_3.length ≤ c0_3) (hr0_6 : Kd.C k84 w A0_6 l0_6.length l0_6) (hc0_6 : l0_6.length ≤ c0_6) (h : impl_GetDone.f k a0_0 a0_1 l0_2 l0_3 a0_4 a0_5 l0_6 = some r) :
 Calls Try.prog 55 #[.agg #[.int .i64 a0_0, .int .i64 a0_1, .slice A0_2 l0_2.length c0_2, .slice A0_3 l0_3.length c0_3, .int .i64 a0_4, .int .i64 a0_5, .slice A0_6 l0_6.length c0_6]] w fun e w' => e = .returned (.bool r) ∧ Below w.heap.size w w' := by
 have hu61 := Try.underlying61
 have HR0_2 := Aside0.mk hr0_2
 have HC0_2 := Aside0.mk hc0_2
 clear hr0_2 hc0_2
 have HR0_3 := Aside0.mk hr0_3
 have HC0_3 := Aside0.mk hc0_3
 clear hr0_3 hc0_3
 have HR0_6 := Aside0.mk hr0_6
 have HC0_6 := Aside0.mk hc0_6
 clear hr0_6 hc0_6
 have HB := Aside0.mk (Below.refl w.heap.size w)
 have H : ((impl_GetOk.f k a0_0 a0_1 l0_2 l0_3 a0_4 a0_5 l0_6).bind fun t1040 => (if t1040 = true then ((impl_Getting_done.f k a0_0 a0_1 l0_2 l0_3 a0_4 a0_5 l0_6).bind fun t1041 => (some t1041)) else (some false))) = some r := h
 clear h
 replace H := bI_ H
 obtain ⟨t1040, A20, H⟩ := H
 replace H : (if t1040 = true then ((impl_Getting_done.f k a0_0 a0_1 l0_2 l0_3 a0_4 a0_5 l0_6).bind fun t1041 => (some t1041)) else (some false)) = some r := H
 have A2 := Aside0.mk A20
 clear A20
 by_cases c3 : t1040 = true
 ·subst c3
  have H1 : ((impl_Getting_done.f k a0_0 a0_1 l0_2 l0_3 a0_4 a0_5 l0_6).bind fun t1041 => (some t1041)) = some r := by rw [if_pos rfl] at H; exact H
  clear H
  have H := H1
  clear H1
  replace H := bI_ H
  obtain ⟨t1041, A40, H⟩ := H
  replace H : (some t1041) = some r := H
  have A4 := Aside0.mk A40
  clear A40
  obtain rfl := Option.some.inj H
  go_enter Try.func55, Try.ntmps55
  go_wp2_with (first | ((with_reducible refine gate_dst (N := 1) rfl ?_); refine box_event ?hg (N := 1) ?hd (cs := #[.int .i64 a0_0, .int .i64 a0_1, .slice A0_2 l0_2.length c0_2, .slice A0_3 l0_3.length c0_3, .int .i64 a0_4, .int .i64 a0_5, .slice A0_6 l0_6.length c0_6]) (t := 61) ?hr ?_; (case hd => rfl); (case hg => rfl); (case hr => first | (go_simp; done) | (go_simp; rfl)); intro gb1039 hg w5 hbox hb; have n0_ := Aside0.mk (below_step (gB HB.out) hb); have n1_ := Aside0.mk (hbox); have n2_ := Aside0.mk ((by rw [hg]; exact (below_size (gB HB.out)) : w.heap.size ≤ gb1039)); have n3_ := n2_; clear HB; have HB := n0_; have BK1039 := n1_; have GW1039 := n2_; have GE1039 := n3_; clear n0_ n1_ n2_ n3_; clear hb hbox hg; have hcz6_0 := cz_ BK1039.out 0 rfl; have hcz6_1 := cz_ BK1039.out 1 rfl; have hcz6_2 := cz_ BK1039.out 2 rfl; have hcz6_3 := cz_ BK1039.out 3 rfl; have hcz6_4 := cz_ BK1039.out 4 rfl; have hcz6_5 := cz_ BK1039.out 5 rfl; have hcz6_6 := cz_ BK1039.out 6 rfl; have hfz6_0 := blk_frozen BK1039.out 0; have hfz6_1 := blk_frozen BK1039.out 1; have hfz6_2 := blk_frozen BK1039.out 2; have hfz6_3 := blk_frozen BK1039.out 3; have hfz6_4 := blk_frozen BK1039.out 4; have hfz6_5 := blk_frozen BK1039.out 5; have hfz6_6 := blk_frozen BK1039.out 6) | ((with_reducible refine gate_callee (f := 53) rfl ?_); refine goesL_ (some 4) rfl rfl Try.func53 (by kernel_rfl) rfl #[.agg #[.int .i64 a0_0, .int .i64 a0_1, .slice A0_2 l0_2.length c0_2, .slice A0_3 l0_3.length c0_3, .int .i64 a0_4, .int .i64 a0_5, .slice A0_6 l0_6.length c0_6]] rfl (by (try simp only [List.map_toArray, List.map_cons, List.map_nil]); first | done | rfl | (simp only [List.length_drop, List.length_take]; rfl)) ?_; (with_reducible refine (impl_GetOk.calls k a0_0 a0_1 _ _ l0_2 _ _ l0_3 a0_4 a0_5 _ _ l0_6 true _ ?side1 ?side2 ?side3 ?side4 ?side5 ?side6 A2.out).mono ?_); (case side1 => exact gC (Kd.C_below HR0_2.out HB.out)); (case side2 => exact HC0_2.out); (case side3 => exact gC (Kd.C_below HR0_3.out HB.out)); (case side4 => exact HC0_3.out); (case side5 => exact gC (Kd.C_below HR0_6.out HB.out)); (case side6 => exact HC0_6.out); rintro e w7 ⟨rfl, hb⟩; refine ⟨_, rfl, ?_⟩; have n0_ := Aside0.mk (blk_below (gK BK1039.out) hb); have n1_ := Aside0.mk (below_step (gB HB.out) hb); clear BK1039; clear HB; have BK1039 := n0_; have HB := n1_; clear n0_ n1_; (try clear hb); (try clear hb2); (try clear hk); (try clear hi); have hcz8_0 := cz_ BK1039.out 0 rfl; have hcz8_1 := cz_ BK1039.out 1 rfl; have hcz8_2 := cz_ BK1039.out 2 rfl; have hcz8_3 := cz_ BK1039.out 3 rfl; have hcz8_4 := cz_ BK1039.out 4 rfl; have hcz8_5 := cz_ BK1039.out 5 rfl; have hcz8_6 := cz_ BK1039.out 6 rfl; have hfz8_0 := blk_frozen BK1039.out 0; have hfz8_1 := blk_frozen BK1039.out 1; have hfz8_2 := blk_frozen BK1039.out 2; have hfz8_3 := blk_frozen BK1039.out 3; have hfz8_4 := blk_frozen BK1039.out 4; have hfz8_5 := blk_frozen BK1039.out 5; have hfz8_6 := blk_frozen BK1039.out 6) | (go_at_call 96; (with_reducible refine (impl_Getting_done.calls k a0_0 a0_1 _ _ l0_2 _ _ l0_3 a0_4 a0_5 _ _ l0_6 t1041 _ ?side1 ?side2 ?side3 ?side4 ?side5 ?side6 A4.out).mono ?_); (case side1 => exact gC (Kd.C_below HR0_2.out HB.out)); (case side2 => exact HC0_2.out); (case side3 => exact gC (Kd.C_below HR0_3.out HB.out)); (case side4 => exact HC0_3.out); (case side5 => exact gC (Kd.C_below HR0_6.out HB.out)); (case side6 => exact HC0_6.out); rintro e w9 ⟨rfl, hb⟩; have n0_ := Aside0.mk (blk_below (gK BK1039.out) hb); have n1_ := Aside0.mk (below_step (gB HB.out) hb); clear BK1039; clear HB; have BK1039 := n0_; have HB := n1_; clear n0_ n1_; (try clear hb); (try clear hb2); (try clear hk); (try clear hi)))
  go_ret
  exact ⟨by first | rfl | (simp [errW_none, errW_some] <;> rfl) | (simp [*, errW_none, errW_some] <;> rfl), by repeat (first | (with_reducible first | exact HB.out | apply below_alloc | apply pw_below_drewN | apply below_drew1 | refine below_set ?_ GE1039.out) | exact HB.out)⟩
 ·replace c3 := Bool.eq_false_iff.mpr c3
  subst c3
  have H1 : (some false) = some r := by rw [if_neg (show ¬ (false = true) by decide)] at H; exact H
  clear H
  have H := H1
  clear H1
  obtain rfl := Option.some.inj H
  go_enter Try.func55, Try.ntmps55
  go_wp2_with (first | ((with_reducible refine gate_dst (N := 1) rfl ?_); refine box_event ?hg (N := 1) ?hd (cs := #[.int .i64 a0_0, .int .i64 a0_1, .slice A0_2 l0_2.length c0_2, .slice A0_3 l0_3.length c0_3, .int .i64 a0_4, .int .i64 a0_5, .slice A0_6 l0_6.length c0_6]) (t := 61) ?hr ?_; (case hd => rfl); (case hg => rfl); (case hr => first | (go_simp; done) | (go_simp; rfl)); intro gb1039 hg w10 hbox hb; have n0_ := Aside0.mk (below_step (gB HB.out) hb); have n1_ := Aside0.mk (hbox); have n2_ := Aside0.mk ((by rw [hg]; exact (below_size (gB HB.out)) : w.heap.size ≤ gb1039)); have n3_ := n2_; clear HB; have HB := n0_; have BK1039 := n1_; have GW1039 := n2_; have GE1039 := n3_; clear n0_ n1_ n2_ n3_; clear hb hbox hg; have hcz11_0 := cz_ BK1039.out 0 rfl; have hcz11_1 := cz_ BK1039.out 1 rfl; have hcz11_2 := cz_ BK1039.out 2 rfl; have hcz11_3 := cz_ BK1039.out 3 rfl; have hcz11_4 := cz_ BK1039.out 4 rfl; have hcz11_5 := cz_ BK1039.out 5 rfl; have hcz11_6 := cz_ BK1039.out 6 rfl; have hfz11_0 := blk_frozen BK1039.out 0; have hfz11_1 := blk_frozen BK1039.out 1; have hfz11_2 := blk_frozen BK1039.out 2; have hfz11_3 := blk_frozen BK1039.out 3; have hfz11_4 := blk_frozen BK1039.out 4; have hfz11_5 := blk_frozen BK1039.out 5; have hfz11_6 := blk_frozen BK1039.out 6) | ((with_reducible refine gate_callee (f := 53) rfl ?_); refine goesL_ (some 4) rfl rfl Try.func53 (by kernel_rfl) rfl #[.agg #[.int .i64 a0_0, .int .i64 a0_1, .slice A0_2 l0_2.length c0_2, .slice A0_3 l0_3.length c0_3, .int .i64 a0_4, .int .i64 a0_5, .slice A0_6 l0_6.length c0_6]] rfl (by (try simp only [List.map_toArray, List.map_cons, List.map_nil]); first | done | rfl | (simp only [List.length_drop, List.length_take]; rfl)) ?_; (with_reducible refine (impl_GetOk.calls k a0_0 a0_1 _ _ l0_2 _ _ l0_3 a0_4 a0_5 _ _ l0_6 false _ ?side1 ?side2 ?side3 ?side4 ?side5 ?side6 A2.out).mono ?_); (case side1 => exact gC (Kd.C_below HR0_2.out HB.out)); (case side2 => exact HC0_2.out); (case side3 => exact gC (Kd.C_below HR0_3.out HB.out)); (case side4 => exact HC0_3.out); (case side5 => exact gC (Kd.C_below HR0_6.out HB.out)); (case side6 => exact HC0_6.out); rintro e w12 ⟨rfl, hb⟩; refine ⟨_, rfl, ?_⟩; have n0_ := Aside0.mk (blk_below (gK BK1039.out) hb); have n1_ := Aside0.mk (below_step (gB HB.out) hb); clear BK1039; clear HB; have BK1039 := n0_; have HB := n1_; clear n0_ n1_; (try clear hb); (try clear hb2); (try clear hk); (try clear hi)))
  go_ret
  exact ⟨by first | rfl | (simp [errW_none, errW_some] <;> rfl) | (simp [*, errW_none, errW_some] <;> rfl), by repeat (first | (with_reducible first | exact HB.out | apply below_alloc | apply pw_below_drewN | apply below_drew1 | refine below_set ?_ GE1039.out) | exact HB.out)⟩

end Go.Proofs.Ytaeeickboakmgaa.X
