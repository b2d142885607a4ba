/- Printed for this claim by the session's program (the kit's printer, several laws in one place): the functions that the law reaches, each as a plain Lean function, and the proof that the Go code comes to its answers. Conditions: none beside those that each theorem states. -/
import Derived.Test.YtaeeickboakmgaaXx0
import Derived.Test.YtaeeickboakmgaaXx4
import Derived.Test.YtaeeickboakmgaaXx5
import Derived.Test.YtaeeickboakmgaaXx8
import Derived.Test.YtaeeickboakmgaaWAll
namespace Go.Proofs.Ytaeeickboakmgaa.X
open Go.RowKit Go.Proofs.YtaeeickboakmgaaW.PrintWords Go.Proofs.YtaeeickboakmgaaW.PrintLast Go.Proofs.YtaeeickboakmgaaW.PrintStep Go.Proofs.YtaeeickboakmgaaW.PrintMore
attribute [local go_sem] max2_int min2_int max_two min_two max_three min_three max_four min_four   -- for this text's walks alone
set_option linter.unusedVariables false
set_option linter.unusedSimpArgs false

/-! ### spec_SolverOk: function 23 -/
mutual
def spec_SolverOk.j0 : Nat → Bool → Int → Int → List (S84) → Option (Bool)
 | 0, _, _, _, _ => none
 | k + 1, x16, x246000, x246001, x246002 => if x16 = true then (some false) else (spec_SolverOk.l0 k 0 x246000 x246001 x246002)
def spec_SolverOk.l0 : Nat → Int → Int → Int → List (S84) → Option (Bool)
 | 0, _, _, _, _ => none
 | k + 1, x3, x246000, x246001, x246002 => if x3 < (x246002.length : Int) then (if 0 ≤ x3 then ((spec_RowOk.f k ((rd_T84 x246002 x3).f0) x246000).bind fun t250 => (if t250 = true then (if (((rd_T84 x246002 x3).f0).length : Int) = 0 then (spec_SolverOk.j2 k x3 true x246000 x246001 x246002) else (if (((rd_T84 x246002 x3).f1).size : Int) = x246001 then (if x3 > 0 then (if 0 ≤ (wrap64 (x3 - 1)) then (if (wrap64 (x3 - 1)) < (x246002.length : Int) then (if 0 < (((rd_T84 x246002 (wrap64 (x3 - 1))).f0).length : Int) then (if 0 < (((rd_T84 x246002 x3).f0).length : Int) then (spec_SolverOk.j2 k x3 (decide ((rd ((rd_T84 x246002 (wrap64 (x3 - 1))).f0) 0) ≥ (rd ((rd_T84 x246002 x3).f0) 0))) x246000 x246001 x246002) else (none)) else (none)) else (none)) else (none)) else (spec_SolverOk.j2 k x3 false x246000 x246001 x246002)) else (spec_SolverOk.j2 k x3 true x246000 x246001 x246002))) else (spec_SolverOk.j2 k x3 true x246000 x246001 x246002))) else (none)) else (spec_SolverOk.l1 k 0 x246000 x246001 x246002)
def spec_SolverOk.j2 : Nat → Int → Bool → Int → Int → List (S84) → Option (Bool)
 | 0, _, _, _, _, _ => none
 | k + 1, x3, x68, x246000, x246001, x246002 => if x68 = true then (some false) else (spec_SolverOk.l0 k (wrap64 (x3 + 1)) x246000 x246001 x246002)
def spec_SolverOk.l1 : Nat → Int → Int → Int → List (S84) → Option (Bool)
 | 0, _, _, _, _ => none
 | k + 1, x5, x246000, x246001, x246002 => if x5 < (x246002.length : Int) then (spec_SolverOk.l2 k x5 0 x246000 x246001 x246002) else (some true)
def spec_SolverOk.l2 : Nat → Int → Int → Int → Int → List (S84) → Option (Bool)
 | 0, _, _, _, _, _ => none
 | k + 1, x5, x6, x246000, x246001, x246002 => if x6 < (x246002.length : Int) then (if x6 = x5 then (spec_SolverOk.l2 k x5 (wrap64 (x6 + 1)) x246000 x246001 x246002) else (if 0 ≤ x6 then (if 0 ≤ x5 then (if x5 < (x246002.length : Int) then (if 0 < (((rd_T84 x246002 x5).f0).length : Int) then ((spec_l3Has.f k ((rd_T84 x246002 x6).f0) (rd ((rd_T84 x246002 x5).f0) 0)).bind fun t257 => (if t257 = true then (some false) else (spec_SolverOk.l2 k x5 (wrap64 (x6 + 1)) x246000 x246001 x246002))) else (none)) else (none)) else (none)) else (none))) else (spec_SolverOk.l1 k (wrap64 (x5 + 1)) x246000 x246001 x246002)
end
def spec_SolverOk.f (k : Nat) (a0_0 : Int) (a0_1 : Int) (l0_2 : List (S84)) : Option (Bool) := (spec_l1In.f a0_0 1 24).bind fun t246 => (if t246 = true then ((spec_l1In.f a0_1 1 16).bind fun t247 => (spec_SolverOk.j0 k (!t247) a0_0 a0_1 l0_2)) else (spec_SolverOk.j0 k true a0_0 a0_1 l0_2))
theorem spec_SolverOk.mono_l : ∀ k, (∀ y0 y1 y2 y3, LeO (spec_SolverOk.j0 k y0 y1 y2 y3) (spec_SolverOk.j0 (k + 1) y0 y1 y2 y3)) ∧ (∀ y0 y1 y2 y3, LeO (spec_SolverOk.l0 k y0 y1 y2 y3) (spec_SolverOk.l0 (k + 1) y0 y1 y2 y3)) ∧ (∀ y0 y1 y2 y3 y4, LeO (spec_SolverOk.j2 k y0 y1 y2 y3 y4) (spec_SolverOk.j2 (k + 1) y0 y1 y2 y3 y4)) ∧ (∀ y0 y1 y2 y3, LeO (spec_SolverOk.l1 k y0 y1 y2 y3) (spec_SolverOk.l1 (k + 1) y0 y1 y2 y3)) ∧ (∀ y0 y1 y2 y3 y4, LeO (spec_SolverOk.l2 k y0 y1 y2 y3 y4) (spec_SolverOk.l2 (k + 1) y0 y1 y2 y3 y4))
 | 0 => ⟨fun _ _ _ _ r h => by simp [spec_SolverOk.j0] at h, fun _ _ _ _ r h => by simp [spec_SolverOk.l0] at h, fun _ _ _ _ _ r h => by simp [spec_SolverOk.j2] at h, fun _ _ _ _ r h => by simp [spec_SolverOk.l1] at h, fun _ _ _ _ _ r h => by simp [spec_SolverOk.l2] at h⟩
 | k + 1 => by
  obtain ⟨ih0, ih1, ih2, ih3, ih4⟩ := spec_SolverOk.mono_l k
  refine ⟨?_, ?_, ?_, ?_, ?_⟩
  ·intro y0 y1 y2 y3
   unfold spec_SolverOk.j0
   repeat' first
   | (with_reducible exact ih0 _ _ _ _)
   | (with_reducible exact ih1 _ _ _ _)
   | (with_reducible exact ih2 _ _ _ _ _)
   | (with_reducible exact ih3 _ _ _ _)
   | (with_reducible exact ih4 _ _ _ _ _)
   | (with_reducible exact spec_RowOk.mono _ _ _)
   | (with_reducible exact spec_l3Has.mono _ _ _)
   | (with_reducible exact LeO.refl _)
   | (with_reducible exact LeO.none _)
   | (with_reducible refine LeO.ite ?_ ?_)
   | (with_reducible refine LeO.bind ?_ (fun _ => ?_))
   | exact ih0 _ _ _ _
   | exact ih1 _ _ _ _
   | exact ih2 _ _ _ _ _
   | exact ih3 _ _ _ _
   | exact ih4 _ _ _ _ _
   | exact spec_RowOk.mono _ _ _
   | exact spec_l3Has.mono _ _ _
   | exact LeO.none _
   | refine LeO.ite ?_ ?_
   | refine LeO.bind ?_ (fun _ => ?_)
  ·intro y0 y1 y2 y3
   unfold spec_SolverOk.l0
   repeat' first
   | (with_reducible exact ih0 _ _ _ _)
   | (with_reducible exact ih1 _ _ _ _)
   | (with_reducible exact ih2 _ _ _ _ _)
   | (with_reducible exact ih3 _ _ _ _)
   | (with_reducible exact ih4 _ _ _ _ _)
   | (with_reducible exact spec_RowOk.mono _ _ _)
   | (with_reducible exact spec_l3Has.mono _ _ _)
   | (with_reducible exact LeO.refl _)
   | (with_reducible exact LeO.none _)
   | (with_reducible refine LeO.ite ?_ ?_)
   | (with_reducible refine LeO.bind ?_ (fun _ => ?_))
   | exact ih0 _ _ _ _
   | exact ih1 _ _ _ _
   | exact ih2 _ _ _ _ _
   | exact ih3 _ _ _ _
   | exact ih4 _ _ _ _ _
   | exact spec_RowOk.mono _ _ _
   | exact spec_l3Has.mono _ _ _
   | exact LeO.none _
   | refine LeO.ite ?_ ?_
   | refine LeO.bind ?_ (fun _ => ?_)
  ·intro y0 y1 y2 y3 y4
   unfold spec_SolverOk.j2
   repeat' first
   | (with_reducible exact ih0 _ _ _ _)
   | (with_reducible exact ih1 _ _ _ _)
   | (with_reducible exact ih2 _ _ _ _ _)
   | (with_reducible exact ih3 _ _ _ _)
   | (with_reducible exact ih4 _ _ _ _ _)
   | (with_reducible exact spec_RowOk.mono _ _ _)
   | (with_reducible exact spec_l3Has.mono _ _ _)
   | (with_reducible exact LeO.refl _)
   | (with_reducible exact LeO.none _)
   | (with_reducible refine LeO.ite ?_ ?_)
   | (with_reducible refine LeO.bind ?_ (fun _ => ?_))
   | exact ih0 _ _ _ _
   | exact ih1 _ _ _ _
   | exact ih2 _ _ _ _ _
   | exact ih3 _ _ _ _
   | exact ih4 _ _ _ _ _
   | exact spec_RowOk.mono _ _ _
   | exact spec_l3Has.mono _ _ _
   | exact LeO.none _
   | refine LeO.ite ?_ ?_
   | refine LeO.bind ?_ (fun _ => ?_)
  ·intro y0 y1 y2 y3
   unfold spec_SolverOk.l1
   repeat' first
   | (with_reducible exact ih0 _ _ _ _)
   | (with_reducible exact ih1 _ _ _ _)
   | (with_reducible exact ih2 _ _ _ _ _)
   | (with_reducible exact ih3 _ _ _ _)
   | (with_reducible exact ih4 _ _ _ _ _)
   | (with_reducible exact spec_RowOk.mono _ _ _)
   | (with_reducible exact spec_l3Has.mono _ _ _)
   | (with_reducible exact LeO.refl _)
   | (with_reducible exact LeO.none _)
   | (with_reducible refine LeO.ite ?_ ?_)
   | (with_reducible refine LeO.bind ?_ (fun _ => ?_))
   | exact ih0 _ _ _ _
   | exact ih1 _ _ _ _
   | exact ih2 _ _ _ _ _
   | exact ih3 _ _ _ _
   | exact ih4 _ _ _ _ _
   | exact spec_RowOk.mono _ _ _
   | exact spec_l3Has.mono _ _ _
   | exact LeO.none _
   | refine LeO.ite ?_ ?_
   | refine LeO.bind ?_ (fun _ => ?_)
  ·intro y0 y1 y2 y3 y4
   unfold spec_SolverOk.l2
   repeat' first
   | (with_reducible exact ih0 _ _ _ _)
   | (with_reducible exact ih1 _ _ _ _)
   | (with_reducible exact ih2 _ _ _ _ _)
   | (with_reducible exact ih3 _ _ _ _)
   | (with_reducible exact ih4 _ _ _ _ _)
   | (with_reducible exact spec_RowOk.mono _ _ _)
   | (with_reducible exact spec_l3Has.mono _ _ _)
   | (with_reducible exact LeO.refl _)
   | (with_reducible exact LeO.none _)
   | (with_reducible refine LeO.ite ?_ ?_)
   | (with_reducible refine LeO.bind ?_ (fun _ => ?_))
   | exact ih0 _ _ _ _
   | exact ih1 _ _ _ _
   | exact ih2 _ _ _ _ _
   | exact ih3 _ _ _ _
   | exact ih4 _ _ _ _ _
   | exact spec_RowOk.mono _ _ _
   | exact spec_l3Has.mono _ _ _
   | exact LeO.none _
   | refine LeO.ite ?_ ?_
   | refine LeO.bind ?_ (fun _ => ?_)
theorem spec_SolverOk.mono : ∀ a0 a1 a2 k, LeO (spec_SolverOk.f k a0 a1 a2) (spec_SolverOk.f (k + 1) a0 a1 a2) := by
 intro a0 a1 a2 k
 obtain ⟨ih0, ih1, ih2, ih3, ih4⟩ := spec_SolverOk.mono_l k
 unfold spec_SolverOk.f
 repeat' first
  | (with_reducible exact ih0 _ _ _ _)
  | (with_reducible exact ih1 _ _ _ _)
  | (with_reducible exact ih2 _ _ _ _ _)
  | (with_reducible exact ih3 _ _ _ _)
  | (with_reducible exact ih4 _ _ _ _ _)
  | (with_reducible exact spec_RowOk.mono _ _ _)
  | (with_reducible exact spec_l3Has.mono _ _ _)
  | (with_reducible exact LeO.refl _)
  | (with_reducible exact LeO.none _)
  | (with_reducible refine LeO.ite ?_ ?_)
  | (with_reducible refine LeO.bind ?_ (fun _ => ?_))
  | exact ih0 _ _ _ _
  | exact ih1 _ _ _ _
  | exact ih2 _ _ _ _ _
  | exact ih3 _ _ _ _
  | exact ih4 _ _ _ _ _
  | exact spec_RowOk.mono _ _ _
  | exact spec_l3Has.mono _ _ _
  | exact LeO.none _
  | refine LeO.ite ?_ ?_
  | refine LeO.bind ?_ (fun _ => ?_)
def spec_SolverOk.T7 : Bool × List (List Nat × List Nat) := (true, [([], []), ([0], [0]), ([], []), ([2], [2]), ([1, 3], [1, 3]), ([4], [4]), ([5, 4], [5]), ([6], [6]), ([7, 6], [6, 7]), ([8, 6], [6, 8]), ([9, 6], [6, 9]), ([6, 10], [6, 10]), ([11, 6], [11]), ([12], [12]), ([13, 12], [12, 13]), ([14, 12], [12, 14]), ([12], [12]), ([16, 12], [12, 16]), ([15, 17, 12], [12, 15, 17]), ([12, 18], [12, 18]), ([19, 12], [19]), ([20], [20]), ([21, 20], [20, 21]), ([22, 20, 20], [20, 22]), ([23], [23]), ([24, 23], [23, 24]), ([23], [23]), ([26, 23], [23, 26]), ([25, 27, 23], [23, 25, 27]), ([28, 23], [23, 28]), ([29, 23], [23, 29]), ([30, 23], [23, 30]), ([31, 23], [23, 31]), ([23], [23]), ([33, 23], [23, 33]), ([34, 23], [23, 34]), ([35, 23], [23, 35]), ([32, 36, 23], [23, 32, 36]), ([23, 37, 20], [20, 23, 37]), ([20, 38], [20, 38])])
def spec_SolverOk.B7 : List Nat := [0, 1, 0, 4, 15, 31, 63, 127, 255, 511, 1023, 2047, 4095, 8191, 16383, 32767, 8191, 73727, 262143, 524287, 1048575, 2097151, 4194303, 8388607, 16777215, 33554431, 16777215, 83886079, 268435455, 536870911, 1073741823, 2147483647, 4294967295, 16777215, 8606711807, 25786580991, 60146319359, 137438953471, 274877906943, 549755813887]
theorem spec_SolverOk.tab7 : rtab .any (opsOf Try.f23 7) = spec_SolverOk.T7 := by kernel_rfl
theorem spec_SolverOk.bits7 : waitsOk spec_SolverOk.T7.2 spec_SolverOk.B7 = true := by kernel_rfl
def spec_SolverOk.T15 : Bool × List (List Nat × List Nat) := (true, [([], []), ([], []), ([0, 1], [0, 1]), ([2], [2]), ([3], [3]), ([4, 3], [3, 4]), ([3], [3]), ([5, 6, 3], [3, 5, 6]), ([7, 3], [3, 7]), ([8, 3], [3, 8]), ([3], [3]), ([10, 3], [3, 10]), ([3], [3]), ([11, 12, 3], [3, 11, 12]), ([13, 3], [3, 13]), ([14, 3], [3, 14]), ([15, 3], [3, 15]), ([16, 3], [3, 16]), ([9, 17, 3, 3], [3, 9, 17]), ([3, 18], [3, 18])])
def spec_SolverOk.B15 : List Nat := [0, 0, 3, 7, 15, 31, 15, 127, 255, 511, 15, 1039, 15, 7183, 15375, 31759, 64527, 130063, 262143, 524287]
theorem spec_SolverOk.tab15 : rtab .any (opsOf Try.f23 15) = spec_SolverOk.T15 := by kernel_rfl
theorem spec_SolverOk.bits15 : waitsOk spec_SolverOk.T15.2 spec_SolverOk.B15 = true := by kernel_rfl
set_option maxHeartbeats 8000000 in
set_option maxRecDepth 100000 in
theorem spec_SolverOk.calls (k : Nat) (a0_0 : Int) (a0_1 : Int) (A0_2 : Option Addr) (c0_2 : Nat) (l0_2 : List (S84)) (r : Bool) (w : World) (hr0_2 : Kd.C k84 w A0_2 l0_2.length l0_2) (hc0_2 : l0_2.length ≤ c0_2) (h : spec_SolverOk.f k a0_0 a0_1 l0_2 = some r) :
 Calls Try.prog 23 #[.agg #[.int .i64 a0_0, .int .i64 a0_1, .slice A0_2 l0_2.length c0_2]] w fun e w' => e = .returned (.bool r) ∧ Below w.heap.size w w' := by
 have hu37 := Try.underlying37
 have hu84 := Try.underlying84
 have HR0_2 := Aside0.mk hr0_2
 have HC0_2 := Aside0.mk hc0_2
 clear hr0_2 hc0_2
 have HB := Aside0.mk (Below.refl w.heap.size w)
 have H : ((spec_l1In.f a0_0 1 24).bind fun t246 => (if t246 = true then ((spec_l1In.f a0_1 1 16).bind fun t247 => (spec_SolverOk.j0 k (!t247) a0_0 a0_1 l0_2)) else (spec_SolverOk.j0 k true a0_0 a0_1 l0_2))) = some r := h
 clear h
 have HC2 := Aside0.mk H
 clear H
 go_enter Try.func23, Try.ntmps23
 go_upto_region 1 with (first | ((with_reducible refine gate_dst (N := 1) rfl ?_); (try (refine gate_guard (by rfl) ?_; dsimp only)); refine box_event ?hg (N := 1) ?hd (cs := #[.int .i64 a0_0, .int .i64 a0_1, .slice A0_2 l0_2.length c0_2]) (t := 37) ?hr ?_; (case hd => rfl); (case hg => rfl); (case hr => first | (go_simp; done) | (go_simp; rfl)); intro gb245 hg w3 hbox hb; have n0_ := Aside0.mk (below_step (gB HB.out) hb); have n1_ := Aside0.mk (hbox); have n2_ := Aside0.mk ((by rw [hg]; exact (below_size (gB HB.out)) : w.heap.size ≤ gb245)); have n3_ := n2_; clear HB; have HB := n0_; have BK245 := n1_; have GW245 := n2_; have GE245 := n3_; clear n0_ n1_ n2_ n3_; clear hb hbox hg))
 (try simp only [Act.put, eA_, e0_, eS_])
 go_cut [16] (fun v16 wc => ∃ (kq : Nat) (x16_1 : Bool), v16 = .bool x16_1 ∧ Aside0 (spec_SolverOk.j0 kq x16_1 a0_0 a0_1 l0_2 = some r) ∧ Aside0 (kq ≤ k) ∧ Aside0 (wc.heap[gb245]? = some (.cells #[.int .i64 a0_0, .int .i64 a0_1, (.slice A0_2 l0_2.length c0_2)] 37 (0, 0))) ∧ Aside0 (Below w.heap.size w wc))
 case first =>
  have H := HC2.out
  clear HC2
  replace H := bI_ H
  obtain ⟨t246, A40, H⟩ := H
  replace H : (if t246 = true then ((spec_l1In.f a0_1 1 16).bind fun t247 => (spec_SolverOk.j0 k (!t247) a0_0 a0_1 l0_2)) else (spec_SolverOk.j0 k true a0_0 a0_1 l0_2)) = some r := H
  have A4 := Aside0.mk A40
  clear A40
  by_cases c5 : t246 = true
  ·subst c5
   have H1 : ((spec_l1In.f a0_1 1 16).bind fun t247 => (spec_SolverOk.j0 k (!t247) a0_0 a0_1 l0_2)) = some r := by rw [if_pos rfl] at H; exact H
   clear H
   have H := H1
   clear H1
   replace H := bI_ H
   obtain ⟨t247, A60, H⟩ := H
   replace H : (spec_SolverOk.j0 k (!t247) a0_0 a0_1 l0_2) = some r := H
   have A6 := Aside0.mk A60
   clear A60
   have H' := Aside0.mk H
   clear H
   have hcz7_0 := cz_ BK245.out 0 rfl
   have hcz7_1 := cz_ BK245.out 1 rfl
   have hcz7_2 := cz_ BK245.out 2 rfl
   have hfz7_0 := blk_frozen BK245.out 0
   have hfz7_1 := blk_frozen BK245.out 1
   have hfz7_2 := blk_frozen BK245.out 2
   go_wp2_with (first | ((with_reducible refine gate_callee (f := 67) rfl ?_); refine goesL_ (some 9) rfl rfl Try.func67 (by kernel_rfl) rfl #[.int .i64 a0_0, .int .i64 1, .int .i64 24] rfl (by (try simp only [List.map_toArray, List.map_cons, List.map_nil]); first | done | rfl | (simp only [List.length_drop, List.length_take]; rfl)) ?_; (with_reducible refine (spec_l1In.calls a0_0 1 24 true _ A4.out).mono ?_); rintro e w' ⟨rfl, ⟨nd, rfl⟩⟩; refine ⟨_, rfl, ?_⟩) | (go_at_call 67; (with_reducible refine (spec_l1In.calls a0_1 1 16 t247 _ A6.out).mono ?_); rintro e w' ⟨rfl, ⟨nd, rfl⟩⟩))
   go_meet
   case rel => exact ⟨_, (!t247), (by first | rfl | (simp; done) | (simp [*]; done) | (simp [wrap64]; done)), H', ⟨by first | omega | exact Nat.le_refl _⟩, ⟨by (with_reducible repeat (first | refine blk_drewN ?_ _ | refine blk_drew ?_ | refine blk_alloc ?_ _)); exact BK245.out⟩, ⟨by repeat (first | (with_reducible first | exact HB.out | apply below_alloc | apply pw_below_drewN | apply below_drew1 | refine below_set ?_ GE245.out) | exact HB.out)⟩⟩
  ·replace c5 := Bool.eq_false_iff.mpr c5
   subst c5
   have H1 : (spec_SolverOk.j0 k true a0_0 a0_1 l0_2) = some r := by rw [if_neg (show ¬ (false = true) by decide)] at H; exact H
   clear H
   have H := H1
   clear H1
   have H' := Aside0.mk H
   clear H
   have hcz8_0 := cz_ BK245.out 0 rfl
   have hcz8_1 := cz_ BK245.out 1 rfl
   have hcz8_2 := cz_ BK245.out 2 rfl
   have hfz8_0 := blk_frozen BK245.out 0
   have hfz8_1 := blk_frozen BK245.out 1
   have hfz8_2 := blk_frozen BK245.out 2
   go_wp2_with (first | ((with_reducible refine gate_callee (f := 67) rfl ?_); refine goesL_ (some 9) rfl rfl Try.func67 (by kernel_rfl) rfl #[.int .i64 a0_0, .int .i64 1, .int .i64 24] rfl (by (try simp only [List.map_toArray, List.map_cons, List.map_nil]); first | done | rfl | (simp only [List.length_drop, List.length_take]; rfl)) ?_; (with_reducible refine (spec_l1In.calls a0_0 1 24 false _ A4.out).mono ?_); rintro e w' ⟨rfl, ⟨nd, rfl⟩⟩; refine ⟨_, rfl, ?_⟩))
   go_meet
   case rel => exact ⟨_, (true), (by first | rfl | (simp; done) | (simp [*]; done) | (simp [wrap64]; done)), H', ⟨by first | omega | exact Nat.le_refl _⟩, ⟨by (with_reducible repeat (first | refine blk_drewN ?_ _ | refine blk_drew ?_ | refine blk_alloc ?_ _)); exact BK245.out⟩, ⟨by repeat (first | (with_reducible first | exact HB.out | apply below_alloc | apply pw_below_drewN | apply below_drew1 | refine below_set ?_ GE245.out) | exact HB.out)⟩⟩
 case rest =>
  clear HC2
  try clear c2
  try clear p2
  try clear c5
  try clear c6
  try clear hcz7_0
  try clear hcz7_1
  try clear hcz7_2
  try clear hcz8_0
  try clear hcz8_1
  try clear hcz8_2
  try clear hfz7_0
  try clear hfz7_1
  try clear hfz7_2
  try clear hfz8_0
  try clear hfz8_1
  try clear hfz8_2
  obtain ⟨kq, x16_1, rfl, HA, HJ1, BK245, HB⟩ := hcut
  cases kq with
  | zero => exact absurd HA.out (by simp [spec_SolverOk.j0])
  | succ kj1 =>
   have H := HA.out
   clear HA
   simp only [spec_SolverOk.j0] at H
   by_cases c9 : x16_1 = true
   ·subst c9
    have H1 : (some false) = some r := by rw [if_pos rfl] at H; exact H
    clear H
    have H := H1
    clear H1
    obtain rfl := Option.some.inj H
    go_wp2
    go_ret
    exact ⟨by first | rfl | (simp [errW_none, errW_some] <;> rfl) | (simp [*, errW_none, errW_some] <;> rfl), by repeat (first | (with_reducible first | exact HB.out | apply below_alloc | apply pw_below_drewN | apply below_drew1 | refine below_set ?_ GE245.out) | exact HB.out)⟩
   ·replace c9 := Bool.eq_false_iff.mpr c9
    subst c9
    have H1 : (spec_SolverOk.l0 kj1 0 a0_0 a0_1 l0_2) = some r := by rw [if_neg (show ¬ (false = true) by decide)] at H; exact H
    clear H
    have H := H1
    clear H1
    have H' := Aside0.mk H
    clear H
    go_wp2
    go_loopg [3] kj1 (fun kq v3 w' => ∃ (x3_2 : Int), v3 = .int .i64 x3_2 ∧ Aside0 (spec_SolverOk.l0 kq x3_2 a0_0 a0_1 l0_2 = some r) ∧ Aside0 (kq ≤ kj1) ∧ Aside0 (w'.heap[gb245]? = some (.cells #[.int .i64 a0_0, .int .i64 a0_1, (.slice A0_2 l0_2.length c0_2)] 37 (0, 0))) ∧ Aside0 (Below w.heap.size w w'))
    case atStart => exact ⟨(0), (by first | rfl | (simp; done) | (simp [*]; done) | (simp [wrap64]; done)), H', ⟨Nat.le_refl _⟩, ⟨by (with_reducible repeat (first | refine blk_drewN ?_ _ | refine blk_drew ?_ | refine blk_alloc ?_ _)); exact BK245.out⟩, ⟨by repeat (first | (with_reducible first | exact HB.out | apply below_alloc | apply pw_below_drewN | apply below_drew1 | refine below_set ?_ GE245.out) | exact HB.out)⟩⟩
    case round =>
     clear H'
     try clear c2
     try clear p2
     try clear c5
     try clear c6
     try clear c9
     try clear hcz7_0
     try clear hcz7_1
     try clear hcz7_2
     try clear hcz8_0
     try clear hcz8_1
     try clear hcz8_2
     try clear hfz7_0
     try clear hfz7_1
     try clear hfz7_2
     try clear hfz8_0
     try clear hfz8_1
     try clear hfz8_2
     try clear p2
     obtain ⟨x3_2, rfl, HA, HK2, BK245, HB⟩ := hrel
     cases gk with
     | zero => exact absurd HA.out (by simp [spec_SolverOk.l0])
     | succ k2 =>
      have H := HA.out
      clear HA
      simp only [spec_SolverOk.l0] at H
      by_cases c10 : x3_2 < (l0_2.length : Int)
      ·rw [if_pos c10] at H
       have c10b0 : decide (x3_2 < (l0_2.length : Int)) = true := decide_eq_true c10
       clear c10
       by_cases c11 : 0 ≤ x3_2
       ·rw [if_pos c11] at H
        have c11b0 : decide (0 ≤ x3_2) = true := decide_eq_true c11
        clear c11
        have HC12 := Aside0.mk H
        clear H
        have hcz13_0 := cz_ BK245.out 0 rfl
        have hcz13_1 := cz_ BK245.out 1 rfl
        have hcz13_2 := cz_ BK245.out 2 rfl
        have hfz13_0 := blk_frozen BK245.out 0
        have hfz13_1 := blk_frozen BK245.out 1
        have hfz13_2 := blk_frozen BK245.out 2
        have p248 : 0 ≤ (x3_2 : Int) := of_decide_eq_true (by first | (with_reducible assumption) | assumption)
        have q248 : x3_2 < (l0_2.length : Int) := of_decide_eq_true (by first | (with_reducible assumption) | assumption)
        obtain ⟨ad248, A248_0, c248_0, e248, hx248_0, hx248_1, hl248_0, hi248_0⟩ := at_T84 HR0_2.out x3_2 p248 q248
        cases e248
        replace hx248_0 := (HB.out.cell (World.block_lt_of_cell? w _ hx248_0)).trans hx248_0
        replace hx248_1 := (HB.out.cell (World.block_lt_of_cell? w _ hx248_1)).trans hx248_1
        have HR248_0 := Aside0.mk hi248_0
        have HC248_0 := Aside0.mk hl248_0
        clear hi248_0 hl248_0
        replace p248 := eq_true p248
        replace q248 := eq_true q248
        go_upto_region 7 with (first | ((with_reducible refine gate_dst (N := 4) rfl ?_); (try (refine gate_guard (by rfl) ?_; dsimp only)); refine box_event ?hg (N := 4) ?hd (cs := #[.slice none 0 0, .string (⟨#[]⟩ : ByteArray)]) (t := 84) ?hr ?_; (case hd => rfl); (case hg => rfl); (case hr => first | (go_simp; done) | (go_simp; rfl)); intro gb249 hg w14 hbox hb; have n0_ := Aside0.mk (blk_below (gK BK245.out) hb); have n1_ := Aside0.mk (below_step (gB HB.out) hb); have n2_ := Aside0.mk (hbox); have n3_ := Aside0.mk ((by rw [hg]; exact (below_size (gB HB.out)) : w.heap.size ≤ gb249)); have n4_ := n3_; have n5_ := Aside0.mk ((by rw [hg]; exact Nat.ne_of_lt (blk_lt (gK BK245.out)) : gb245 ≠ gb249)); have n6_ := Aside0.mk ((by rw [hg]; exact Nat.ne_of_gt (blk_lt (gK BK245.out)) : gb249 ≠ gb245)); clear BK245; clear HB; have BK245 := n0_; have HB := n1_; have BK249 := n2_; have GW249 := n3_; have GE249 := n4_; have NB245_249 := n5_; have NB249_245 := n6_; clear n0_ n1_ n2_ n3_ n4_ n5_ n6_; clear hb hbox hg; have hnb15 := NB249_245.out; have hnc15 := NB245_249.out; have hcz16_0 := cz_ BK249.out 0 rfl; have hcz16_1 := cz_ BK249.out 1 rfl; have hfz16_0 := blk_frozen BK249.out 0; have hfz16_1 := blk_frozen BK249.out 1))
        (try simp only [Act.put, eA_, e0_, eS_])
        go_cut [68] (fun v68 wc => ∃ (kq : Nat) (x68_11 : Bool), v68 = .bool x68_11 ∧ Aside0 (spec_SolverOk.j2 kq x3_2 x68_11 a0_0 a0_1 l0_2 = some r) ∧ Aside0 (kq ≤ k2) ∧ Aside0 (wc.heap[gb245]? = some (.cells #[.int .i64 a0_0, .int .i64 a0_1, (.slice (some ad248) l0_2.length c0_2)] 37 (0, 0))) ∧ Aside0 (wc.heap[gb249]? = some (.cells #[(.slice A248_0 ((rd_T84 l0_2 x3_2).f0).length c248_0), .string ((rd_T84 l0_2 x3_2).f1)] 84 (0, 0))) ∧ Aside0 (Below w.heap.size w wc))
        case first =>
         have H := HC12.out
         clear HC12
         replace H := bI_ H
         obtain ⟨t250, A170, H⟩ := H
         replace H : (if t250 = true then (if (((rd_T84 l0_2 x3_2).f0).length : Int) = 0 then (spec_SolverOk.j2 k2 x3_2 true a0_0 a0_1 l0_2) else (if (((rd_T84 l0_2 x3_2).f1).size : Int) = a0_1 then (if x3_2 > 0 then (if 0 ≤ (wrap64 (x3_2 - 1)) then (if (wrap64 (x3_2 - 1)) < (l0_2.length : Int) then (if 0 < (((rd_T84 l0_2 (wrap64 (x3_2 - 1))).f0).length : Int) then (if 0 < (((rd_T84 l0_2 x3_2).f0).length : Int) then (spec_SolverOk.j2 k2 x3_2 (decide ((rd ((rd_T84 l0_2 (wrap64 (x3_2 - 1))).f0) 0) ≥ (rd ((rd_T84 l0_2 x3_2).f0) 0))) a0_0 a0_1 l0_2) else (none)) else (none)) else (none)) else (none)) else (spec_SolverOk.j2 k2 x3_2 false a0_0 a0_1 l0_2)) else (spec_SolverOk.j2 k2 x3_2 true a0_0 a0_1 l0_2))) else (spec_SolverOk.j2 k2 x3_2 true a0_0 a0_1 l0_2)) = some r := H
         have A17 := Aside0.mk A170
         clear A170
         by_cases c18 : t250 = true
         ·subst c18
          have H1 : (if (((rd_T84 l0_2 x3_2).f0).length : Int) = 0 then (spec_SolverOk.j2 k2 x3_2 true a0_0 a0_1 l0_2) else (if (((rd_T84 l0_2 x3_2).f1).size : Int) = a0_1 then (if x3_2 > 0 then (if 0 ≤ (wrap64 (x3_2 - 1)) then (if (wrap64 (x3_2 - 1)) < (l0_2.length : Int) then (if 0 < (((rd_T84 l0_2 (wrap64 (x3_2 - 1))).f0).length : Int) then (if 0 < (((rd_T84 l0_2 x3_2).f0).length : Int) then (spec_SolverOk.j2 k2 x3_2 (decide ((rd ((rd_T84 l0_2 (wrap64 (x3_2 - 1))).f0) 0) ≥ (rd ((rd_T84 l0_2 x3_2).f0) 0))) a0_0 a0_1 l0_2) else (none)) else (none)) else (none)) else (none)) else (spec_SolverOk.j2 k2 x3_2 false a0_0 a0_1 l0_2)) else (spec_SolverOk.j2 k2 x3_2 true a0_0 a0_1 l0_2))) = some r := by rw [if_pos rfl] at H; exact H
          clear H
          have H := H1
          clear H1
          by_cases c19 : (((rd_T84 l0_2 x3_2).f0).length : Int) = 0
          ·rw [if_pos c19] at H
           have c19b0 : ((((rd_T84 l0_2 x3_2).f0).length : Int) == 0) = true := beq_iff_eq.mpr c19
           have c19b1 : ((((rd_T84 l0_2 x3_2).f0).length : Int) != 0) = false := bne_eq_false_iff_eq.mpr c19
           clear c19
           (first | rw [c19b0] | (simp only [i64_w, i32_w]; rw [c19b0]) | skip)
           have H' := Aside0.mk H
           clear H
           try go_wp2
           have n0_ : Aside0 (((w14.setCell ⟨gb249, 0, none⟩ (.slice A248_0 ((rd_T84 l0_2 x3_2).f0).length c248_0)).setCell ⟨gb249, 1, none⟩ (.string ((rd_T84 l0_2 x3_2).f1))).heap[gb245]? = some (.cells #[.int .i64 a0_0, .int .i64 a0_1, .slice (some ad248) l0_2.length c0_2] 37 (0, 0))) := ⟨by (with_reducible repeat (first | refine blk_drewN ?_ _ | refine blk_drew ?_ | refine blk_alloc ?_ _)); refine blk_far ?_ NB245_249.out _; (with_reducible repeat (first | refine blk_drewN ?_ _ | refine blk_drew ?_ | refine blk_alloc ?_ _)); refine blk_far ?_ NB245_249.out _; (with_reducible repeat (first | refine blk_drewN ?_ _ | refine blk_drew ?_ | refine blk_alloc ?_ _)); exact BK245.out⟩
           have n1_ : Aside0 (((w14.setCell ⟨gb249, 0, none⟩ (.slice A248_0 ((rd_T84 l0_2 x3_2).f0).length c248_0)).setCell ⟨gb249, 1, none⟩ (.string ((rd_T84 l0_2 x3_2).f1))).heap[gb249]? = some (.cells #[.slice A248_0 ((rd_T84 l0_2 x3_2).f0).length c248_0, .string ((rd_T84 l0_2 x3_2).f1)] 84 (0, 0))) := ⟨by (with_reducible repeat (first | refine blk_drewN ?_ _ | refine blk_drew ?_ | refine blk_alloc ?_ _)); refine blk_put (cs := #[.slice A248_0 ((rd_T84 l0_2 x3_2).f0).length c248_0, .string (⟨#[]⟩ : ByteArray)]) ?_ 1 _ rfl; (with_reducible repeat (first | refine blk_drewN ?_ _ | refine blk_drew ?_ | refine blk_alloc ?_ _)); refine blk_put (cs := #[.slice none 0 0, .string (⟨#[]⟩ : ByteArray)]) ?_ 0 _ rfl; (with_reducible repeat (first | refine blk_drewN ?_ _ | refine blk_drew ?_ | refine blk_alloc ?_ _)); exact BK249.out⟩
           have n2_ : Aside0 (Below w.heap.size w ((w14.setCell ⟨gb249, 0, none⟩ (.slice A248_0 ((rd_T84 l0_2 x3_2).f0).length c248_0)).setCell ⟨gb249, 1, none⟩ (.string ((rd_T84 l0_2 x3_2).f1)))) := ⟨by repeat (first | (with_reducible first | exact HB.out | apply below_alloc | apply pw_below_drewN | apply below_drew1 | refine below_set ?_ GE245.out | refine below_set ?_ GE249.out) | exact HB.out)⟩
           (try clear BK245)
           (try clear BK249)
           (try clear HB)
           generalize ((w14.setCell ⟨gb249, 0, none⟩ (.slice A248_0 ((rd_T84 l0_2 x3_2).f0).length c248_0)).setCell ⟨gb249, 1, none⟩ (.string ((rd_T84 l0_2 x3_2).f1))) = w20 at n0_ n1_ n2_ ⊢
           have BK245 := n0_
           have BK249 := n1_
           have HB := n2_
           clear n0_ n1_ n2_
           have n0_ := Aside0.mk (blk_drew BK245.out)
           have n1_ := Aside0.mk (blk_drew BK249.out)
           have n2_ := Aside0.mk (below_drew1 HB.out)
           clear BK245
           clear BK249
           clear HB
           have BK245 := n0_
           have BK249 := n1_
           have HB := n2_
           clear n0_ n1_ n2_
           refine start_ (n := 40) (S := fun w' => w'.cell? ⟨gb249, 0, none⟩ = some (.slice A248_0 ((rd_T84 l0_2 x3_2).f0).length c248_0) ∧ w'.cell? ⟨gb249, 1, none⟩ = some (.string ((rd_T84 l0_2 x3_2).f1)) ∧ w'.cell? ⟨gb245, 0, none⟩ = some (.int .i64 a0_0) ∧ w'.cell? ⟨gb245, 1, none⟩ = some (.int .i64 a0_1) ∧ w'.cell? ⟨gb245, 2, none⟩ = some (.slice (some ad248) l0_2.length c0_2)) (ds := []) (.replicate 40 false) (by kernel_rfl) rfl rfl ⟨cz_ BK249.out 0 rfl, cz_ BK249.out 1 rfl, cz_ BK245.out 0 rfl, cz_ BK245.out 1 rfl, cz_ BK245.out 2 rfl⟩ (fun hHeld => ?_); refine with_tabW spec_SolverOk.tab7 spec_SolverOk.bits7 (fun HT_ HW_ => ?_)
           generalize w20.drew = w21 at BK245 BK249 HB hHeld ⊢
           refine pu_ 0 (some 29) (bv 40 1) rfl rfl (any_of HT_.out (by kernel_rfl)) (fun _ _ _ h => h) (by rfl) (fun w' => by go_simp; with_reducible rfl) (by simp only [Act.put, eA_, e0_, eS_, i64_w, i32_w]; rfl) ?_
           refine pu_ 2 (some 31) (bv 40 5) rfl rfl (any_of HT_.out (by kernel_rfl)) (fun _ _ _ h => h) (by rfl) (fun w' => by go_simp; with_reducible rfl) (by simp only [Act.put, eA_, e0_, eS_, i64_w, i32_w]; rfl) ?_
           refine tk_ 1 (some 30) (bv 40 7) rfl rfl (take_ofW HT_.out HW_.out (by kernel_rfl)) (fun _ _ _ h => h) (by rfl) hHeld (fun w' ⟨s0, s1, s2, s3, s4⟩ => by go_simp; with_reducible rfl) (by simp only [Act.put, eA_, e0_, eS_, i64_w, i32_w]; rfl) ?_
           refine tk_ 3 (some 32) (bv 40 15) rfl rfl (take_ofW HT_.out HW_.out (by kernel_rfl)) (fun _ _ _ h => h) (by rfl) hHeld (fun w' ⟨s0, s1, s2, s3, s4⟩ => by go_simp; with_reducible rfl) (by simp only [Act.put, eA_, e0_, eS_, i64_w, i32_w]; rfl) ?_
           refine one_ (i := 4) (N := some 33) (bv 40 31) rfl rfl (one_of HT_.out (by kernel_rfl)) (by decide) (fun K hK => ?_)
           refine goes_ Try.func20 (by kernel_rfl) rfl #[.slice A248_0 ((rd_T84 l0_2 x3_2).f0).length c248_0, .int .i64 a0_0] (by rfl) rfl rfl (by (try simp only [List.map_toArray, List.map_cons, List.map_nil]); first | done | rfl | (simp only [List.length_drop, List.length_take]; rfl)) ?_
           with_reducible refine (spec_RowOk.calls k2 _ _ ((rd_T84 l0_2 x3_2).f0) a0_0 true _ ?side1 ?side2 A17.out).mono ?_
           (case side1 => exact gC (Kd.C_below HR248_0.out HB.out))
           (case side2 => exact HC248_0.out)
           rintro e w' ⟨rfl, ⟨nd, rfl⟩⟩
           refine ⟨_, rfl, ?_⟩
           refine hK.out _ _ ⟨cz_ BK249.out 0 rfl, cz_ BK249.out 1 rfl, cz_ BK245.out 0 rfl, cz_ BK245.out 1 rfl, cz_ BK245.out 2 rfl⟩ (fun hHeld => ?_)
           clear hK K
           refine norm_ (a' := ?_) ?_ ?_
           rotate_left
           ·show Act.put _ (some 33) _ = _
            simp only [Act.put, eA_, e0_, eS_, i64_w, i32_w]
            rfl
           refine pu_ 5 (some 34) (bv 40 63) rfl rfl (any_of HT_.out (by kernel_rfl)) (fun _ _ _ h => h) (by rfl) (fun w' => by go_simp; with_reducible rfl) (by simp only [Act.put, eA_, e0_, eS_, i64_w, i32_w]; rfl) ?_
           refine pu_ 6 (some 35) (bv 40 127) rfl rfl (any_of HT_.out (by kernel_rfl)) (fun _ _ _ h => h) (by rfl) (fun w' => by go_simp; with_reducible rfl) (by simp only [Act.put, eA_, e0_, eS_, i64_w, i32_w]; rfl) ?_
           refine pu_ 7 (some 36) (bv 40 255) rfl rfl (any_of HT_.out (by kernel_rfl)) (fun _ _ _ h => h) (by rfl) (fun w' => by go_simp; with_reducible rfl) (by simp only [Act.put, eA_, e0_, eS_, i64_w, i32_w]; rfl) ?_
           refine tk_ 8 (some 37) (bv 40 511) rfl rfl (take_ofW HT_.out HW_.out (by kernel_rfl)) (fun _ _ _ h => h) (by rfl) hHeld (fun w' ⟨s0, s1, s2, s3, s4⟩ => by go_simp; with_reducible rfl) (by simp only [Act.put, eA_, e0_, eS_, i64_w, i32_w]; rfl) ?_
           refine pu_ 9 (some 38) (bv 40 1023) rfl rfl (any_of HT_.out (by kernel_rfl)) (fun _ _ _ h => h) (by rfl) (fun w' => by go_simp; with_reducible rfl) (by simp only [Act.put, eA_, e0_, eS_, i64_w, i32_w]; rfl) ?_
           refine pu_ 10 (some 39) (bv 40 2047) rfl rfl (any_of HT_.out (by kernel_rfl)) (fun _ _ _ h => h) (by rfl) (fun w' => by go_simp; with_reducible rfl) (by simp only [Act.put, eA_, e0_, eS_, i64_w, i32_w]; rfl) ?_
           refine pu_ 11 (some 40) (bv 40 4095) rfl rfl (any_of HT_.out (by kernel_rfl)) (fun _ _ _ h => h) (by rfl) (fun w' => by go_simp; with_reducible rfl) (by simp only [Act.put, eA_, e0_, eS_, i64_w, i32_w]; rfl) ?_
           refine pu_ 12 (some 41) (bv 40 8191) rfl rfl (any_of HT_.out (by kernel_rfl)) (fun _ _ _ h => h) (by rfl) (fun w' => by go_simp; with_reducible rfl) (by simp only [Act.put, eA_, e0_, eS_, i64_w, i32_w]; rfl) ?_
           refine sk_ 6 [13, 14, 15, 16, 17, 18] [42, 43, 44, 45, 46, 47] (bv 40 524287) rfl (skB_of HT_.out (by kernel_rfl)) (by kernel_rfl) (fun _ _ _ _ _ h => h) (by simp only [putU, Act.put, eA_, e0_, eS_]; rfl) ?_
           refine pu_ 19 (some 48) (bv 40 1048575) rfl rfl (any_of HT_.out (by kernel_rfl)) (fun _ _ _ h => h) (by rfl) (fun w' => by go_simp; with_reducible rfl) (by simp only [Act.put, eA_, e0_, eS_, i64_w, i32_w]; rfl) ?_
           refine pu_ 20 (some 49) (bv 40 2097151) rfl rfl (any_of HT_.out (by kernel_rfl)) (fun _ _ _ h => h) (by rfl) (fun w' => by go_simp; with_reducible rfl) (by simp only [Act.put, eA_, e0_, eS_, i64_w, i32_w]; rfl) ?_
           refine sk_ 18 [21, 22, 23, 24, 25, 26, 27, 28, 29, 30, 31, 32, 33, 34, 35, 36, 37, 38] [50, 51, 52, 53, 54, 55, 56, 57, 58, 59, 60, 61, 62, 63, 64, 65, 66, 67] (bv 40 549755813887) rfl (skB_of HT_.out (by kernel_rfl)) (by kernel_rfl) (fun _ _ _ _ _ h => h) (by simp only [putU, Act.put, eA_, e0_, eS_]; rfl) ?_
           refine pu_ 39 (some 68) (bv 40 1099511627775) rfl rfl (any_of HT_.out (by kernel_rfl)) (fun _ _ _ h => h) (by rfl) (fun w' => by go_simp; with_reducible rfl) (by simp only [Act.put, eA_, e0_, eS_, i64_w, i32_w]; rfl) ?_
           refine done_ (done_of HT_.out (by kernel_rfl)) ?_
           try go_wp2
           go_meet
           case rel => exact ⟨_, (true), (by first | rfl | (simp; done) | (simp [*]; done) | (simp [wrap64]; done)), H', ⟨by have := HJ1.out; have := HK2.out; first | omega | exact Nat.le_refl _⟩, ⟨by (with_reducible repeat (first | refine blk_drewN ?_ _ | refine blk_drew ?_ | refine blk_alloc ?_ _)); exact BK245.out⟩, ⟨by (with_reducible repeat (first | refine blk_drewN ?_ _ | refine blk_drew ?_ | refine blk_alloc ?_ _)); exact BK249.out⟩, ⟨by repeat (first | (with_reducible first | exact HB.out | apply below_alloc | apply pw_below_drewN | apply below_drew1 | refine below_set ?_ GE245.out | refine below_set ?_ GE249.out) | exact HB.out)⟩⟩
          ·rw [if_neg c19] at H
           have c19b0 : ((((rd_T84 l0_2 x3_2).f0).length : Int) == 0) = false := beq_eq_false_iff_ne.mpr c19
           have c19b1 : ((((rd_T84 l0_2 x3_2).f0).length : Int) != 0) = true := bne_iff_ne.mpr c19
           have c19b2 : ¬ (((rd_T84 l0_2 x3_2).f0) = []) := fun h_ => c19 (by rw [h_]; rfl)
           (first | rw [c19b0] | (simp only [i64_w, i32_w]; rw [c19b0]) | skip)
           by_cases c22 : (((rd_T84 l0_2 x3_2).f1).size : Int) = a0_1
           ·rw [if_pos c22] at H
            have c22b0 : ((((rd_T84 l0_2 x3_2).f1).size : Int) == a0_1) = true := beq_iff_eq.mpr c22
            have c22b1 : ((((rd_T84 l0_2 x3_2).f1).size : Int) != a0_1) = false := bne_eq_false_iff_eq.mpr c22
            clear c22
            by_cases c23 : x3_2 > 0
            ·rw [if_pos c23] at H
             have c23b0 : decide (0 < x3_2) = true := decide_eq_true c23
             clear c23
             obtain ⟨ji24, hji24⟩ : ∃ j_ : Int, (wrap64 (x3_2 - 1)) = j_ := ⟨_, rfl⟩
             replace H : (if 0 ≤ (ji24) then (if (ji24) < (l0_2.length : Int) then (if 0 < (((rd_T84 l0_2 (ji24)).f0).length : Int) then (if 0 < (((rd_T84 l0_2 x3_2).f0).length : Int) then (spec_SolverOk.j2 k2 x3_2 (decide ((rd ((rd_T84 l0_2 (ji24)).f0) 0) ≥ (rd ((rd_T84 l0_2 x3_2).f0) 0))) a0_0 a0_1 l0_2) else (none)) else (none)) else (none)) else (none)) = some r := by first | (rw [hji24] at H; exact H) | (simp only [hji24] at H ⊢; exact H)
             (try rw [hji24] at A17)
             have hji24w : (IntKind.i64.wrap (x3_2 - 1)) = ji24 := (i64_w _).trans hji24
             by_cases c25 : 0 ≤ (ji24)
             ·rw [if_pos c25] at H
              have c25b0 : decide (0 ≤ (ji24)) = true := decide_eq_true c25
              clear c25
              by_cases c26 : (ji24) < (l0_2.length : Int)
              ·rw [if_pos c26] at H
               have c26b0 : decide ((ji24) < (l0_2.length : Int)) = true := decide_eq_true c26
               clear c26
               by_cases c27 : 0 < (((rd_T84 l0_2 (ji24)).f0).length : Int)
               ·rw [if_pos c27] at H
                have c27b0 : decide (0 < (((rd_T84 l0_2 (ji24)).f0).length : Int)) = true := decide_eq_true c27
                have c27b1 : decide (0 < ((rd_T84 l0_2 (ji24)).f0).length) = true := decide_eq_true (by omega)
                clear c27
                by_cases c28 : 0 < (((rd_T84 l0_2 x3_2).f0).length : Int)
                ·rw [if_pos c28] at H
                 have c28b0 : decide (0 < (((rd_T84 l0_2 x3_2).f0).length : Int)) = true := decide_eq_true c28
                 have c28b1 : decide (0 < ((rd_T84 l0_2 x3_2).f0).length) = true := decide_eq_true (by omega)
                 clear c28
                 have H' := Aside0.mk H
                 clear H
                 try go_wp2
                 have n0_ : Aside0 (((w14.setCell ⟨gb249, 0, none⟩ (.slice A248_0 ((rd_T84 l0_2 x3_2).f0).length c248_0)).setCell ⟨gb249, 1, none⟩ (.string ((rd_T84 l0_2 x3_2).f1))).heap[gb245]? = some (.cells #[.int .i64 a0_0, .int .i64 a0_1, .slice (some ad248) l0_2.length c0_2] 37 (0, 0))) := ⟨by (with_reducible repeat (first | refine blk_drewN ?_ _ | refine blk_drew ?_ | refine blk_alloc ?_ _)); refine blk_far ?_ NB245_249.out _; (with_reducible repeat (first | refine blk_drewN ?_ _ | refine blk_drew ?_ | refine blk_alloc ?_ _)); refine blk_far ?_ NB245_249.out _; (with_reducible repeat (first | refine blk_drewN ?_ _ | refine blk_drew ?_ | refine blk_alloc ?_ _)); exact BK245.out⟩
                 have n1_ : Aside0 (((w14.setCell ⟨gb249, 0, none⟩ (.slice A248_0 ((rd_T84 l0_2 x3_2).f0).length c248_0)).setCell ⟨gb249, 1, none⟩ (.string ((rd_T84 l0_2 x3_2).f1))).heap[gb249]? = some (.cells #[.slice A248_0 ((rd_T84 l0_2 x3_2).f0).length c248_0, .string ((rd_T84 l0_2 x3_2).f1)] 84 (0, 0))) := ⟨by (with_reducible repeat (first | refine blk_drewN ?_ _ | refine blk_drew ?_ | refine blk_alloc ?_ _)); refine blk_put (cs := #[.slice A248_0 ((rd_T84 l0_2 x3_2).f0).length c248_0, .string (⟨#[]⟩ : ByteArray)]) ?_ 1 _ rfl; (with_reducible repeat (first | refine blk_drewN ?_ _ | refine blk_drew ?_ | refine blk_alloc ?_ _)); refine blk_put (cs := #[.slice none 0 0, .string (⟨#[]⟩ : ByteArray)]) ?_ 0 _ rfl; (with_reducible repeat (first | refine blk_drewN ?_ _ | refine blk_drew ?_ | refine blk_alloc ?_ _)); exact BK249.out⟩
                 have n2_ : Aside0 (Below w.heap.size w ((w14.setCell ⟨gb249, 0, none⟩ (.slice A248_0 ((rd_T84 l0_2 x3_2).f0).length c248_0)).setCell ⟨gb249, 1, none⟩ (.string ((rd_T84 l0_2 x3_2).f1)))) := ⟨by repeat (first | (with_reducible first | exact HB.out | apply below_alloc | apply pw_below_drewN | apply below_drew1 | refine below_set ?_ GE245.out | refine below_set ?_ GE249.out) | exact HB.out)⟩
                 (try clear BK245)
                 (try clear BK249)
                 (try clear HB)
                 generalize ((w14.setCell ⟨gb249, 0, none⟩ (.slice A248_0 ((rd_T84 l0_2 x3_2).f0).length c248_0)).setCell ⟨gb249, 1, none⟩ (.string ((rd_T84 l0_2 x3_2).f1))) = w29 at n0_ n1_ n2_ ⊢
                 have BK245 := n0_
                 have BK249 := n1_
                 have HB := n2_
                 clear n0_ n1_ n2_
                 have n0_ := Aside0.mk (blk_drew BK245.out)
                 have n1_ := Aside0.mk (blk_drew BK249.out)
                 have n2_ := Aside0.mk (below_drew1 HB.out)
                 clear BK245
                 clear BK249
                 clear HB
                 have BK245 := n0_
                 have BK249 := n1_
                 have HB := n2_
                 clear n0_ n1_ n2_
                 have p251 : 0 ≤ ((ji24) : Int) := of_decide_eq_true (by first | (with_reducible assumption) | assumption)
                 have q251 : (ji24) < (l0_2.length : Int) := of_decide_eq_true (by first | (with_reducible assumption) | assumption)
                 obtain ⟨ad251, A251_0, c251_0, e251, hx251_0, hx251_1, hl251_0, hi251_0⟩ := at_T84 HR0_2.out (ji24) p251 q251
                 have hw251_1 := hx251_1
                 have hw251_0 := hx251_0
                 obtain rfl : ad248 = ad251 := (by injection e251)
                 replace hx251_0 := (HB.out.cell (World.block_lt_of_cell? w _ hx251_0)).trans hx251_0
                 replace hx251_1 := (HB.out.cell (World.block_lt_of_cell? w _ hx251_1)).trans hx251_1
                 have HR251_0 := Aside0.mk hi251_0
                 have HC251_0 := Aside0.mk hl251_0
                 clear hi251_0 hl251_0
                 replace p251 := eq_true p251
                 replace q251 := eq_true q251
                 have p252 : 0 ≤ (0 : Int) := (by omega)
                 have q252 : 0 < (((rd_T84 l0_2 (ji24)).f0).length : Int) := of_decide_eq_true (by first | (with_reducible assumption) | assumption)
                 obtain ⟨ad252, e252, hx252_0⟩ := Kd.at_int HR251_0.out 0 p252 q252
                 have hw252_0 := hx252_0
                 (try rw [show ((0 : Int)).toNat = 0 from rfl] at hw252_0)
                 (try rw [show 0 * 1 = 0 from rfl] at hw252_0)
                 (try rw [Addr.add_zero'] at hw252_0)
                 cases e252
                 have qi252 : (0 < ((rd_T84 l0_2 (ji24)).f0).length) = True := eq_true (by omega)
                 (try rw [show ((0 : Int)).toNat = 0 from rfl] at hx252_0)
                 (try rw [Addr.add_zero'] at hx252_0)
                 replace hx252_0 := (HB.out.cell (World.block_lt_of_cell? w _ hx252_0)).trans hx252_0
                 replace p252 := eq_true p252
                 replace q252 := eq_true q252
                 have p253 : 0 ≤ (0 : Int) := (by omega)
                 have q253 : 0 < (((rd_T84 l0_2 x3_2).f0).length : Int) := of_decide_eq_true (by first | (with_reducible assumption) | assumption)
                 obtain ⟨ad253, e253, hx253_0⟩ := Kd.at_int HR248_0.out 0 p253 q253
                 have hw253_0 := hx253_0
                 (try rw [show ((0 : Int)).toNat = 0 from rfl] at hw253_0)
                 (try rw [show 0 * 1 = 0 from rfl] at hw253_0)
                 (try rw [Addr.add_zero'] at hw253_0)
                 cases e253
                 have qi253 : (0 < ((rd_T84 l0_2 x3_2).f0).length) = True := eq_true (by omega)
                 (try rw [show ((0 : Int)).toNat = 0 from rfl] at hx253_0)
                 (try rw [Addr.add_zero'] at hx253_0)
                 replace hx253_0 := (HB.out.cell (World.block_lt_of_cell? w _ hx253_0)).trans hx253_0
                 replace p253 := eq_true p253
                 replace q253 := eq_true q253
                 refine start_ (n := 40) (S := fun w' => w'.cell? ⟨gb249, 0, none⟩ = some (.slice (some ad253) ((rd_T84 l0_2 x3_2).f0).length c248_0) ∧ w'.cell? ⟨gb249, 1, none⟩ = some (.string ((rd_T84 l0_2 x3_2).f1)) ∧ w'.cell? ⟨gb245, 0, none⟩ = some (.int .i64 a0_0) ∧ w'.cell? ⟨gb245, 1, none⟩ = some (.int .i64 a0_1) ∧ w'.cell? ⟨gb245, 2, none⟩ = some (.slice (some ad248) l0_2.length c0_2) ∧ w'.cell? (ad248.add (((ji24)).toNat * 2)) = some (.slice (some ad252) ((rd_T84 l0_2 (ji24)).f0).length c251_0) ∧ w'.cell? ⟨(ad248.add (((ji24)).toNat * 2)).block, (ad248.add (((ji24)).toNat * 2)).off + 1, none⟩ = some (.string ((rd_T84 l0_2 (ji24)).f1)) ∧ w'.cell? ad252 = some (.int .i64 (rd ((rd_T84 l0_2 (ji24)).f0) 0)) ∧ w'.cell? ad253 = some (.int .i64 (rd ((rd_T84 l0_2 x3_2).f0) 0))) (ds := []) (.replicate 40 false) (by kernel_rfl) rfl rfl ⟨cz_ BK249.out 0 rfl, cz_ BK249.out 1 rfl, cz_ BK245.out 0 rfl, cz_ BK245.out 1 rfl, cz_ BK245.out 2 rfl, ((HB.out.cell (World.block_lt_of_cell? w _ hw251_0)).trans hw251_0), ((HB.out.cell (World.block_lt_of_cell? w _ hw251_1)).trans hw251_1), ((HB.out.cell (World.block_lt_of_cell? w _ hw252_0)).trans hw252_0), ((HB.out.cell (World.block_lt_of_cell? w _ hw253_0)).trans hw253_0)⟩ (fun hHeld => ?_); refine with_tabW spec_SolverOk.tab7 spec_SolverOk.bits7 (fun HT_ HW_ => ?_)
                 generalize w29.drew = w30 at BK245 BK249 HB HR251_0 hx251_0 hx251_1 hx252_0 hx253_0 hHeld ⊢
                 refine pu_ 0 (some 29) (bv 40 1) rfl rfl (any_of HT_.out (by kernel_rfl)) (fun _ _ _ h => h) (by rfl) (fun w' => by go_simp; with_reducible rfl) (by simp only [Act.put, eA_, e0_, eS_, i64_w, i32_w]; rfl) ?_
                 refine pu_ 2 (some 31) (bv 40 5) rfl rfl (any_of HT_.out (by kernel_rfl)) (fun _ _ _ h => h) (by rfl) (fun w' => by go_simp; with_reducible rfl) (by simp only [Act.put, eA_, e0_, eS_, i64_w, i32_w]; rfl) ?_
                 refine tk_ 1 (some 30) (bv 40 7) rfl rfl (take_ofW HT_.out HW_.out (by kernel_rfl)) (fun _ _ _ h => h) (by rfl) hHeld (fun w' ⟨s0, s1, s2, s3, s4, s5, s6, s7, s8⟩ => by go_simp; with_reducible rfl) (by simp only [Act.put, eA_, e0_, eS_, i64_w, i32_w]; rfl) ?_
                 refine tk_ 3 (some 32) (bv 40 15) rfl rfl (take_ofW HT_.out HW_.out (by kernel_rfl)) (fun _ _ _ h => h) (by rfl) hHeld (fun w' ⟨s0, s1, s2, s3, s4, s5, s6, s7, s8⟩ => by go_simp; with_reducible rfl) (by simp only [Act.put, eA_, e0_, eS_, i64_w, i32_w]; rfl) ?_
                 refine one_ (i := 4) (N := some 33) (bv 40 31) rfl rfl (one_of HT_.out (by kernel_rfl)) (by decide) (fun K hK => ?_)
                 refine goes_ Try.func20 (by kernel_rfl) rfl #[.slice (some ad253) ((rd_T84 l0_2 x3_2).f0).length c248_0, .int .i64 a0_0] (by rfl) rfl rfl (by (try simp only [List.map_toArray, List.map_cons, List.map_nil]); first | done | rfl | (simp only [List.length_drop, List.length_take]; rfl)) ?_
                 with_reducible refine (spec_RowOk.calls k2 _ _ ((rd_T84 l0_2 x3_2).f0) a0_0 true _ ?side1 ?side2 A17.out).mono ?_
                 (case side1 => exact gC (Kd.C_below HR248_0.out HB.out))
                 (case side2 => exact HC248_0.out)
                 rintro e w' ⟨rfl, ⟨nd, rfl⟩⟩
                 refine ⟨_, rfl, ?_⟩
                 refine hK.out _ _ ⟨cz_ BK249.out 0 rfl, cz_ BK249.out 1 rfl, cz_ BK245.out 0 rfl, cz_ BK245.out 1 rfl, cz_ BK245.out 2 rfl, ((HB.out.cell (World.block_lt_of_cell? w _ hw251_0)).trans hw251_0), ((HB.out.cell (World.block_lt_of_cell? w _ hw251_1)).trans hw251_1), ((HB.out.cell (World.block_lt_of_cell? w _ hw252_0)).trans hw252_0), ((HB.out.cell (World.block_lt_of_cell? w _ hw253_0)).trans hw253_0)⟩ (fun hHeld => ?_)
                 clear hK K
                 refine norm_ (a' := ?_) ?_ ?_
                 rotate_left
                 ·show Act.put _ (some 33) _ = _
                  simp only [Act.put, eA_, e0_, eS_, i64_w, i32_w]
                  rfl
                 refine pu_ 5 (some 34) (bv 40 63) rfl rfl (any_of HT_.out (by kernel_rfl)) (fun _ _ _ h => h) (by rfl) (fun w' => by go_simp; with_reducible rfl) (by simp only [Act.put, eA_, e0_, eS_, i64_w, i32_w]; rfl) ?_
                 refine pu_ 6 (some 35) (bv 40 127) rfl rfl (any_of HT_.out (by kernel_rfl)) (fun _ _ _ h => h) (by rfl) (fun w' => by go_simp; with_reducible rfl) (by simp only [Act.put, eA_, e0_, eS_, i64_w, i32_w]; rfl) ?_
                 refine pu_ 7 (some 36) (bv 40 255) rfl rfl (any_of HT_.out (by kernel_rfl)) (fun _ _ _ h => h) (by rfl) (fun w' => by go_simp; with_reducible rfl) (by simp only [Act.put, eA_, e0_, eS_, i64_w, i32_w]; rfl) ?_
                 refine tk_ 8 (some 37) (bv 40 511) rfl rfl (take_ofW HT_.out HW_.out (by kernel_rfl)) (fun _ _ _ h => h) (by rfl) hHeld (fun w' ⟨s0, s1, s2, s3, s4, s5, s6, s7, s8⟩ => by go_simp; with_reducible rfl) (by simp only [Act.put, eA_, e0_, eS_, i64_w, i32_w]; rfl) ?_
                 refine pu_ 9 (some 38) (bv 40 1023) rfl rfl (any_of HT_.out (by kernel_rfl)) (fun _ _ _ h => h) (by rfl) (fun w' => by go_simp; with_reducible rfl) (by simp only [Act.put, eA_, e0_, eS_, i64_w, i32_w]; rfl) ?_
                 refine pu_ 10 (some 39) (bv 40 2047) rfl rfl (any_of HT_.out (by kernel_rfl)) (fun _ _ _ h => h) (by rfl) (fun w' => by go_simp; with_reducible rfl) (by simp only [Act.put, eA_, e0_, eS_, i64_w, i32_w]; rfl) ?_
                 refine pu_ 11 (some 40) (bv 40 4095) rfl rfl (any_of HT_.out (by kernel_rfl)) (fun _ _ _ h => h) (by rfl) (fun w' => by go_simp; with_reducible rfl) (by simp only [Act.put, eA_, e0_, eS_, i64_w, i32_w]; rfl) ?_
                 refine pu_ 12 (some 41) (bv 40 8191) rfl rfl (any_of HT_.out (by kernel_rfl)) (fun _ _ _ h => h) (by rfl) (fun w' => by go_simp; with_reducible rfl) (by simp only [Act.put, eA_, e0_, eS_, i64_w, i32_w]; rfl) ?_
                 refine pu_ 13 (some 42) (bv 40 16383) rfl rfl (any_of HT_.out (by kernel_rfl)) (fun _ _ _ h => h) (by rfl) (fun w' => by go_simp; with_reducible rfl) (by simp only [Act.put, eA_, e0_, eS_, i64_w, i32_w]; rfl) ?_
                 refine pu_ 16 (some 45) (bv 40 81919) rfl rfl (any_of HT_.out (by kernel_rfl)) (fun _ _ _ h => h) (by rfl) (fun w' => by go_simp; with_reducible rfl) (by simp only [Act.put, eA_, e0_, eS_, i64_w, i32_w]; rfl) ?_
                 refine tk_ 14 (some 43) (bv 40 98303) rfl rfl (take_ofW HT_.out HW_.out (by kernel_rfl)) (fun _ _ _ h => h) (by rfl) hHeld (fun w' ⟨s0, s1, s2, s3, s4, s5, s6, s7, s8⟩ => by go_simp; with_reducible rfl) (by simp only [Act.put, eA_, e0_, eS_, i64_w, i32_w]; rfl) ?_
                 refine pu_ 15 (some 44) (bv 40 131071) rfl rfl (any_of HT_.out (by kernel_rfl)) (fun _ _ _ h => h) (by rfl) (fun w' => by go_simp; with_reducible rfl) (by simp only [Act.put, eA_, e0_, eS_, i64_w, i32_w]; rfl) ?_
                 refine tk_ 17 (some 46) (bv 40 262143) rfl rfl (take_ofW HT_.out HW_.out (by kernel_rfl)) (fun _ _ _ h => h) (by rfl) hHeld (fun w' ⟨s0, s1, s2, s3, s4, s5, s6, s7, s8⟩ => by go_simp; with_reducible rfl) (by simp only [Act.put, eA_, e0_, eS_, i64_w, i32_w]; rfl) ?_
                 refine pu_ 18 (some 47) (bv 40 524287) rfl rfl (any_of HT_.out (by kernel_rfl)) (fun _ _ _ h => h) (by rfl) (fun w' => by go_simp; with_reducible rfl) (by simp only [Act.put, eA_, e0_, eS_, i64_w, i32_w]; rfl) ?_
                 refine pu_ 19 (some 48) (bv 40 1048575) rfl rfl (any_of HT_.out (by kernel_rfl)) (fun _ _ _ h => h) (by rfl) (fun w' => by go_simp; with_reducible rfl) (by simp only [Act.put, eA_, e0_, eS_, i64_w, i32_w]; rfl) ?_
                 refine pu_ 20 (some 49) (bv 40 2097151) rfl rfl (any_of HT_.out (by kernel_rfl)) (fun _ _ _ h => h) (by rfl) (fun w' => by go_simp; with_reducible rfl) (by simp only [Act.put, eA_, e0_, eS_, i64_w, i32_w]; rfl) ?_
                 refine pu_ 21 (some 50) (bv 40 4194303) rfl rfl (any_of HT_.out (by kernel_rfl)) (fun _ _ _ h => h) (by rfl) (fun w' => by go_simp; with_reducible rfl) (by simp only [Act.put, eA_, e0_, eS_, i64_w, i32_w]; rfl) ?_
                 refine pu_ 22 (some 51) (bv 40 8388607) rfl rfl (any_of HT_.out (by kernel_rfl)) (fun _ _ _ h => h) (by rfl) (fun w' => by go_simp; with_reducible rfl) (by simp only [Act.put, eA_, e0_, eS_, i64_w, i32_w]; rfl) ?_
                 refine pu_ 23 (some 52) (bv 40 16777215) rfl rfl (any_of HT_.out (by kernel_rfl)) (fun _ _ _ h => h) (by rfl) (fun w' => by go_simp; with_reducible rfl) (by simp only [Act.put, eA_, e0_, eS_, i64_w, i32_w]; rfl) ?_
                 refine pu_ 24 (some 53) (bv 40 33554431) rfl rfl (any_of HT_.out (by kernel_rfl)) (fun _ _ _ h => h) (by rfl) (fun w' => by go_simp; with_reducible rfl) (by simp only [Act.put, eA_, e0_, eS_, i64_w, i32_w]; rfl) ?_
                 refine pu_ 26 (some 55) (bv 40 100663295) rfl rfl (any_of HT_.out (by kernel_rfl)) (fun _ _ _ h => h) (by rfl) (fun w' => by go_simp; with_reducible rfl) (by simp only [Act.put, eA_, e0_, eS_, i64_w, i32_w]; rfl) ?_
                 refine pu_ 27 (some 56) (bv 40 234881023) rfl rfl (any_of HT_.out (by kernel_rfl)) (fun _ _ _ h => h) (by rfl) (fun w' => by go_simp; with_reducible rfl) (by simp only [Act.put, eA_, e0_, eS_, i64_w, i32_w]; rfl) ?_
                 refine pu_ 33 (some 62) (bv 40 8824815615) rfl rfl (any_of HT_.out (by kernel_rfl)) (fun _ _ _ h => h) (by rfl) (fun w' => by go_simp; with_reducible rfl) (by simp only [Act.put, eA_, e0_, eS_, i64_w, i32_w]; rfl) ?_
                 refine tk_ 25 (some 54) (bv 40 8858370047) rfl rfl (take_ofW HT_.out HW_.out (by kernel_rfl)) (fun _ _ _ h => h) (by rfl) hHeld (fun w' ⟨s0, s1, s2, s3, s4, s5, s6, s7, s8⟩ => by go_simp; with_reducible rfl) (by simp only [Act.put, eA_, e0_, eS_, i64_w, i32_w]; rfl) ?_
                 refine pu_ 28 (some 57) (bv 40 9126805503) rfl rfl (any_of HT_.out (by kernel_rfl)) (fun _ _ _ h => h) (by rfl) (fun w' => by go_simp; with_reducible rfl) (by simp only [Act.put, eA_, e0_, eS_, i64_w, i32_w]; rfl) ?_
                 refine pu_ 29 (some 58) (bv 40 9663676415) rfl rfl (any_of HT_.out (by kernel_rfl)) (fun _ _ _ h => h) (by rfl) (fun w' => by go_simp; with_reducible rfl) (by simp only [Act.put, eA_, e0_, eS_, i64_w, i32_w]; rfl) ?_
                 refine tk_ 30 (some 59) (bv 40 10737418239) rfl rfl (take_ofW HT_.out HW_.out (by kernel_rfl)) (fun _ _ _ h => h) (by rfl) hHeld (fun w' ⟨s0, s1, s2, s3, s4, s5, s6, s7, s8⟩ => by go_simp; with_reducible rfl) (by simp only [Act.put, eA_, e0_, eS_, i64_w, i32_w]; rfl) ?_
                 refine pu_ 31 (some 60) (bv 40 12884901887) rfl rfl (any_of HT_.out (by kernel_rfl)) (fun _ _ _ h => h) (by rfl) (fun w' => by go_simp; with_reducible rfl) (by simp only [Act.put, eA_, e0_, eS_, i64_w, i32_w]; rfl) ?_
                 refine tk_ 32 (some 61) (bv 40 17179869183) rfl rfl (take_ofW HT_.out HW_.out (by kernel_rfl)) (fun _ _ _ h => h) (by rfl) hHeld (fun w' ⟨s0, s1, s2, s3, s4, s5, s6, s7, s8⟩ => by go_simp; with_reducible rfl) (by simp only [Act.put, eA_, e0_, eS_, i64_w, i32_w]; rfl) ?_
                 refine tk_ 34 (some 63) (bv 40 34359738367) rfl rfl (take_ofW HT_.out HW_.out (by kernel_rfl)) (fun _ _ _ h => h) (by rfl) hHeld (fun w' ⟨s0, s1, s2, s3, s4, s5, s6, s7, s8⟩ => by go_simp; with_reducible rfl) (by simp only [Act.put, eA_, e0_, eS_, i64_w, i32_w]; rfl) ?_
                 refine pu_ 35 (some 64) (bv 40 68719476735) rfl rfl (any_of HT_.out (by kernel_rfl)) (fun _ _ _ h => h) (by rfl) (fun w' => by go_simp; with_reducible rfl) (by simp only [Act.put, eA_, e0_, eS_, i64_w, i32_w]; rfl) ?_
                 refine tk_ 36 (some 65) (bv 40 137438953471) rfl rfl (take_ofW HT_.out HW_.out (by kernel_rfl)) (fun _ _ _ h => h) (by rfl) hHeld (fun w' ⟨s0, s1, s2, s3, s4, s5, s6, s7, s8⟩ => by go_simp; with_reducible rfl) (by simp only [Act.put, eA_, e0_, eS_, i64_w, i32_w]; rfl) ?_
                 refine pu_ 37 (some 66) (bv 40 274877906943) rfl rfl (any_of HT_.out (by kernel_rfl)) (fun _ _ _ h => h) (by rfl) (fun w' => by go_simp; with_reducible rfl) (by simp only [Act.put, eA_, e0_, eS_, i64_w, i32_w]; rfl) ?_
                 refine pu_ 38 (some 67) (bv 40 549755813887) rfl rfl (any_of HT_.out (by kernel_rfl)) (fun _ _ _ h => h) (by rfl) (fun w' => by go_simp; with_reducible rfl) (by simp only [Act.put, eA_, e0_, eS_, i64_w, i32_w]; rfl) ?_
                 refine pu_ 39 (some 68) (bv 40 1099511627775) rfl rfl (any_of HT_.out (by kernel_rfl)) (fun _ _ _ h => h) (by rfl) (fun w' => by go_simp; with_reducible rfl) (by simp only [Act.put, eA_, e0_, eS_, i64_w, i32_w]; rfl) ?_
                 refine done_ (done_of HT_.out (by kernel_rfl)) ?_
                 try go_wp2
                 go_meet
                 case rel => exact ⟨_, (decide ((rd ((rd_T84 l0_2 (ji24)).f0) 0) ≥ (rd ((rd_T84 l0_2 x3_2).f0) 0))), (by first | rfl | (simp; done) | (simp only [← hji24] <;> (first | rfl | simp)) | (simp [*]; done)), H', ⟨by have := HJ1.out; have := HK2.out; first | omega | exact Nat.le_refl _⟩, ⟨by (with_reducible repeat (first | refine blk_drewN ?_ _ | refine blk_drew ?_ | refine blk_alloc ?_ _)); exact BK245.out⟩, ⟨by (with_reducible repeat (first | refine blk_drewN ?_ _ | refine blk_drew ?_ | refine blk_alloc ?_ _)); exact BK249.out⟩, ⟨by repeat (first | (with_reducible first | exact HB.out | apply below_alloc | apply pw_below_drewN | apply below_drew1 | refine below_set ?_ GE245.out | refine below_set ?_ GE249.out) | exact HB.out)⟩⟩
                ·rw [if_neg c28] at H
                 exact absurd H (by simp)
               ·rw [if_neg c27] at H
                exact absurd H (by simp)
              ·rw [if_neg c26] at H
               exact absurd H (by simp)
             ·rw [if_neg c25] at H
              exact absurd H (by simp)
            ·rw [if_neg c23] at H
             have c23b0 : decide (0 < x3_2) = false := decide_eq_false c23
             clear c23
             have H' := Aside0.mk H
             clear H
             try go_wp2
             have n0_ : Aside0 (((w14.setCell ⟨gb249, 0, none⟩ (.slice A248_0 ((rd_T84 l0_2 x3_2).f0).length c248_0)).setCell ⟨gb249, 1, none⟩ (.string ((rd_T84 l0_2 x3_2).f1))).heap[gb245]? = some (.cells #[.int .i64 a0_0, .int .i64 a0_1, .slice (some ad248) l0_2.length c0_2] 37 (0, 0))) := ⟨by (with_reducible repeat (first | refine blk_drewN ?_ _ | refine blk_drew ?_ | refine blk_alloc ?_ _)); refine blk_far ?_ NB245_249.out _; (with_reducible repeat (first | refine blk_drewN ?_ _ | refine blk_drew ?_ | refine blk_alloc ?_ _)); refine blk_far ?_ NB245_249.out _; (with_reducible repeat (first | refine blk_drewN ?_ _ | refine blk_drew ?_ | refine blk_alloc ?_ _)); exact BK245.out⟩
             have n1_ : Aside0 (((w14.setCell ⟨gb249, 0, none⟩ (.slice A248_0 ((rd_T84 l0_2 x3_2).f0).length c248_0)).setCell ⟨gb249, 1, none⟩ (.string ((rd_T84 l0_2 x3_2).f1))).heap[gb249]? = some (.cells #[.slice A248_0 ((rd_T84 l0_2 x3_2).f0).length c248_0, .string ((rd_T84 l0_2 x3_2).f1)] 84 (0, 0))) := ⟨by (with_reducible repeat (first | refine blk_drewN ?_ _ | refine blk_drew ?_ | refine blk_alloc ?_ _)); refine blk_put (cs := #[.slice A248_0 ((rd_T84 l0_2 x3_2).f0).length c248_0, .string (⟨#[]⟩ : ByteArray)]) ?_ 1 _ rfl; (with_reducible repeat (first | refine blk_drewN ?_ _ | refine blk_drew ?_ | refine blk_alloc ?_ _)); refine blk_put (cs := #[.slice none 0 0, .string (⟨#[]⟩ : ByteArray)]) ?_ 0 _ rfl; (with_reducible repeat (first | refine blk_drewN ?_ _ | refine blk_drew ?_ | refine blk_alloc ?_ _)); exact BK249.out⟩
             have n2_ : Aside0 (Below w.heap.size w ((w14.setCell ⟨gb249, 0, none⟩ (.slice A248_0 ((rd_T84 l0_2 x3_2).f0).length c248_0)).setCell ⟨gb249, 1, none⟩ (.string ((rd_T84 l0_2 x3_2).f1)))) := ⟨by repeat (first | (with_reducible first | exact HB.out | apply below_alloc | apply pw_below_drewN | apply below_drew1 | refine below_set ?_ GE245.out | refine below_set ?_ GE249.out) | exact HB.out)⟩
             (try clear BK245)
             (try clear BK249)
             (try clear HB)
             generalize ((w14.setCell ⟨gb249, 0, none⟩ (.slice A248_0 ((rd_T84 l0_2 x3_2).f0).length c248_0)).setCell ⟨gb249, 1, none⟩ (.string ((rd_T84 l0_2 x3_2).f1))) = w31 at n0_ n1_ n2_ ⊢
             have BK245 := n0_
             have BK249 := n1_
             have HB := n2_
             clear n0_ n1_ n2_
             have n0_ := Aside0.mk (blk_drew BK245.out)
             have n1_ := Aside0.mk (blk_drew BK249.out)
             have n2_ := Aside0.mk (below_drew1 HB.out)
             clear BK245
             clear BK249
             clear HB
             have BK245 := n0_
             have BK249 := n1_
             have HB := n2_
             clear n0_ n1_ n2_
             refine start_ (n := 40) (S := fun w' => w'.cell? ⟨gb249, 0, none⟩ = some (.slice A248_0 ((rd_T84 l0_2 x3_2).f0).length c248_0) ∧ w'.cell? ⟨gb249, 1, none⟩ = some (.string ((rd_T84 l0_2 x3_2).f1)) ∧ w'.cell? ⟨gb245, 0, none⟩ = some (.int .i64 a0_0) ∧ w'.cell? ⟨gb245, 1, none⟩ = some (.int .i64 a0_1) ∧ w'.cell? ⟨gb245, 2, none⟩ = some (.slice (some ad248) l0_2.length c0_2)) (ds := []) (.replicate 40 false) (by kernel_rfl) rfl rfl ⟨cz_ BK249.out 0 rfl, cz_ BK249.out 1 rfl, cz_ BK245.out 0 rfl, cz_ BK245.out 1 rfl, cz_ BK245.out 2 rfl⟩ (fun hHeld => ?_); refine with_tabW spec_SolverOk.tab7 spec_SolverOk.bits7 (fun HT_ HW_ => ?_)
             generalize w31.drew = w32 at BK245 BK249 HB hHeld ⊢
             refine pu_ 0 (some 29) (bv 40 1) rfl rfl (any_of HT_.out (by kernel_rfl)) (fun _ _ _ h => h) (by rfl) (fun w' => by go_simp; with_reducible rfl) (by simp only [Act.put, eA_, e0_, eS_, i64_w, i32_w]; rfl) ?_
             refine pu_ 2 (some 31) (bv 40 5) rfl rfl (any_of HT_.out (by kernel_rfl)) (fun _ _ _ h => h) (by rfl) (fun w' => by go_simp; with_reducible rfl) (by simp only [Act.put, eA_, e0_, eS_, i64_w, i32_w]; rfl) ?_
             refine tk_ 1 (some 30) (bv 40 7) rfl rfl (take_ofW HT_.out HW_.out (by kernel_rfl)) (fun _ _ _ h => h) (by rfl) hHeld (fun w' ⟨s0, s1, s2, s3, s4⟩ => by go_simp; with_reducible rfl) (by simp only [Act.put, eA_, e0_, eS_, i64_w, i32_w]; rfl) ?_
             refine tk_ 3 (some 32) (bv 40 15) rfl rfl (take_ofW HT_.out HW_.out (by kernel_rfl)) (fun _ _ _ h => h) (by rfl) hHeld (fun w' ⟨s0, s1, s2, s3, s4⟩ => by go_simp; with_reducible rfl) (by simp only [Act.put, eA_, e0_, eS_, i64_w, i32_w]; rfl) ?_
             refine one_ (i := 4) (N := some 33) (bv 40 31) rfl rfl (one_of HT_.out (by kernel_rfl)) (by decide) (fun K hK => ?_)
             refine goes_ Try.func20 (by kernel_rfl) rfl #[.slice A248_0 ((rd_T84 l0_2 x3_2).f0).length c248_0, .int .i64 a0_0] (by rfl) rfl rfl (by (try simp only [List.map_toArray, List.map_cons, List.map_nil]); first | done | rfl | (simp only [List.length_drop, List.length_take]; rfl)) ?_
             with_reducible refine (spec_RowOk.calls k2 _ _ ((rd_T84 l0_2 x3_2).f0) a0_0 true _ ?side1 ?side2 A17.out).mono ?_
             (case side1 => exact gC (Kd.C_below HR248_0.out HB.out))
             (case side2 => exact HC248_0.out)
             rintro e w' ⟨rfl, ⟨nd, rfl⟩⟩
             refine ⟨_, rfl, ?_⟩
             refine hK.out _ _ ⟨cz_ BK249.out 0 rfl, cz_ BK249.out 1 rfl, cz_ BK245.out 0 rfl, cz_ BK245.out 1 rfl, cz_ BK245.out 2 rfl⟩ (fun hHeld => ?_)
             clear hK K
             refine norm_ (a' := ?_) ?_ ?_
             rotate_left
             ·show Act.put _ (some 33) _ = _
              simp only [Act.put, eA_, e0_, eS_, i64_w, i32_w]
              rfl
             refine pu_ 5 (some 34) (bv 40 63) rfl rfl (any_of HT_.out (by kernel_rfl)) (fun _ _ _ h => h) (by rfl) (fun w' => by go_simp; with_reducible rfl) (by simp only [Act.put, eA_, e0_, eS_, i64_w, i32_w]; rfl) ?_
             refine pu_ 6 (some 35) (bv 40 127) rfl rfl (any_of HT_.out (by kernel_rfl)) (fun _ _ _ h => h) (by rfl) (fun w' => by go_simp; with_reducible rfl) (by simp only [Act.put, eA_, e0_, eS_, i64_w, i32_w]; rfl) ?_
             refine pu_ 7 (some 36) (bv 40 255) rfl rfl (any_of HT_.out (by kernel_rfl)) (fun _ _ _ h => h) (by rfl) (fun w' => by go_simp; with_reducible rfl) (by simp only [Act.put, eA_, e0_, eS_, i64_w, i32_w]; rfl) ?_
             refine tk_ 8 (some 37) (bv 40 511) rfl rfl (take_ofW HT_.out HW_.out (by kernel_rfl)) (fun _ _ _ h => h) (by rfl) hHeld (fun w' ⟨s0, s1, s2, s3, s4⟩ => by go_simp; with_reducible rfl) (by simp only [Act.put, eA_, e0_, eS_, i64_w, i32_w]; rfl) ?_
             refine pu_ 9 (some 38) (bv 40 1023) rfl rfl (any_of HT_.out (by kernel_rfl)) (fun _ _ _ h => h) (by rfl) (fun w' => by go_simp; with_reducible rfl) (by simp only [Act.put, eA_, e0_, eS_, i64_w, i32_w]; rfl) ?_
             refine pu_ 10 (some 39) (bv 40 2047) rfl rfl (any_of HT_.out (by kernel_rfl)) (fun _ _ _ h => h) (by rfl) (fun w' => by go_simp; with_reducible rfl) (by simp only [Act.put, eA_, e0_, eS_, i64_w, i32_w]; rfl) ?_
             refine pu_ 11 (some 40) (bv 40 4095) rfl rfl (any_of HT_.out (by kernel_rfl)) (fun _ _ _ h => h) (by rfl) (fun w' => by go_simp; with_reducible rfl) (by simp only [Act.put, eA_, e0_, eS_, i64_w, i32_w]; rfl) ?_
             refine pu_ 12 (some 41) (bv 40 8191) rfl rfl (any_of HT_.out (by kernel_rfl)) (fun _ _ _ h => h) (by rfl) (fun w' => by go_simp; with_reducible rfl) (by simp only [Act.put, eA_, e0_, eS_, i64_w, i32_w]; rfl) ?_
             refine pu_ 13 (some 42) (bv 40 16383) rfl rfl (any_of HT_.out (by kernel_rfl)) (fun _ _ _ h => h) (by rfl) (fun w' => by go_simp; with_reducible rfl) (by simp only [Act.put, eA_, e0_, eS_, i64_w, i32_w]; rfl) ?_
             refine pu_ 16 (some 45) (bv 40 81919) rfl rfl (any_of HT_.out (by kernel_rfl)) (fun _ _ _ h => h) (by rfl) (fun w' => by go_simp; with_reducible rfl) (by simp only [Act.put, eA_, e0_, eS_, i64_w, i32_w]; rfl) ?_
             refine tk_ 14 (some 43) (bv 40 98303) rfl rfl (take_ofW HT_.out HW_.out (by kernel_rfl)) (fun _ _ _ h => h) (by rfl) hHeld (fun w' ⟨s0, s1, s2, s3, s4⟩ => by go_simp; with_reducible rfl) (by simp only [Act.put, eA_, e0_, eS_, i64_w, i32_w]; rfl) ?_
             refine pu_ 15 (some 44) (bv 40 131071) rfl rfl (any_of HT_.out (by kernel_rfl)) (fun _ _ _ h => h) (by rfl) (fun w' => by go_simp; with_reducible rfl) (by simp only [Act.put, eA_, e0_, eS_, i64_w, i32_w]; rfl) ?_
             refine tk_ 17 (some 46) (bv 40 262143) rfl rfl (take_ofW HT_.out HW_.out (by kernel_rfl)) (fun _ _ _ h => h) (by rfl) hHeld (fun w' ⟨s0, s1, s2, s3, s4⟩ => by go_simp; with_reducible rfl) (by simp only [Act.put, eA_, e0_, eS_, i64_w, i32_w]; rfl) ?_
             refine pu_ 18 (some 47) (bv 40 524287) rfl rfl (any_of HT_.out (by kernel_rfl)) (fun _ _ _ h => h) (by rfl) (fun w' => by go_simp; with_reducible rfl) (by simp only [Act.put, eA_, e0_, eS_, i64_w, i32_w]; rfl) ?_
             refine pu_ 19 (some 48) (bv 40 1048575) rfl rfl (any_of HT_.out (by kernel_rfl)) (fun _ _ _ h => h) (by rfl) (fun w' => by go_simp; with_reducible rfl) (by simp only [Act.put, eA_, e0_, eS_, i64_w, i32_w]; rfl) ?_
             refine pu_ 20 (some 49) (bv 40 2097151) rfl rfl (any_of HT_.out (by kernel_rfl)) (fun _ _ _ h => h) (by rfl) (fun w' => by go_simp; with_reducible rfl) (by simp only [Act.put, eA_, e0_, eS_, i64_w, i32_w]; rfl) ?_
             refine pu_ 21 (some 50) (bv 40 4194303) rfl rfl (any_of HT_.out (by kernel_rfl)) (fun _ _ _ h => h) (by rfl) (fun w' => by go_simp; with_reducible rfl) (by simp only [Act.put, eA_, e0_, eS_, i64_w, i32_w]; rfl) ?_
             refine pu_ 22 (some 51) (bv 40 8388607) rfl rfl (any_of HT_.out (by kernel_rfl)) (fun _ _ _ h => h) (by rfl) (fun w' => by go_simp; with_reducible rfl) (by simp only [Act.put, eA_, e0_, eS_, i64_w, i32_w]; rfl) ?_
             refine pu_ 23 (some 52) (bv 40 16777215) rfl rfl (any_of HT_.out (by kernel_rfl)) (fun _ _ _ h => h) (by rfl) (fun w' => by go_simp; with_reducible rfl) (by simp only [Act.put, eA_, e0_, eS_, i64_w, i32_w]; rfl) ?_
             refine sk_ 14 [24, 25, 26, 27, 28, 29, 30, 31, 32, 33, 34, 35, 36, 37] [53, 54, 55, 56, 57, 58, 59, 60, 61, 62, 63, 64, 65, 66] (bv 40 274877906943) rfl (skB_of HT_.out (by kernel_rfl)) (by kernel_rfl) (fun _ _ _ _ _ h => h) (by simp only [putU, Act.put, eA_, e0_, eS_]; rfl) ?_
             refine pu_ 38 (some 67) (bv 40 549755813887) rfl rfl (any_of HT_.out (by kernel_rfl)) (fun _ _ _ h => h) (by rfl) (fun w' => by go_simp; with_reducible rfl) (by simp only [Act.put, eA_, e0_, eS_, i64_w, i32_w]; rfl) ?_
             refine pu_ 39 (some 68) (bv 40 1099511627775) rfl rfl (any_of HT_.out (by kernel_rfl)) (fun _ _ _ h => h) (by rfl) (fun w' => by go_simp; with_reducible rfl) (by simp only [Act.put, eA_, e0_, eS_, i64_w, i32_w]; rfl) ?_
             refine done_ (done_of HT_.out (by kernel_rfl)) ?_
             try go_wp2
             go_meet
             case rel => exact ⟨_, (false), (by first | rfl | (simp; done) | (simp [*]; done) | (simp [wrap64]; done)), H', ⟨by have := HJ1.out; have := HK2.out; first | omega | exact Nat.le_refl _⟩, ⟨by (with_reducible repeat (first | refine blk_drewN ?_ _ | refine blk_drew ?_ | refine blk_alloc ?_ _)); exact BK245.out⟩, ⟨by (with_reducible repeat (first | refine blk_drewN ?_ _ | refine blk_drew ?_ | refine blk_alloc ?_ _)); exact BK249.out⟩, ⟨by repeat (first | (with_reducible first | exact HB.out | apply below_alloc | apply pw_below_drewN | apply below_drew1 | refine below_set ?_ GE245.out | refine below_set ?_ GE249.out) | exact HB.out)⟩⟩
           ·rw [if_neg c22] at H
            have c22b0 : ((((rd_T84 l0_2 x3_2).f1).size : Int) == a0_1) = false := beq_eq_false_iff_ne.mpr c22
            have c22b1 : ((((rd_T84 l0_2 x3_2).f1).size : Int) != a0_1) = true := bne_iff_ne.mpr c22
            have H' := Aside0.mk H
            clear H
            try go_wp2
            have n0_ : Aside0 (((w14.setCell ⟨gb249, 0, none⟩ (.slice A248_0 ((rd_T84 l0_2 x3_2).f0).length c248_0)).setCell ⟨gb249, 1, none⟩ (.string ((rd_T84 l0_2 x3_2).f1))).heap[gb245]? = some (.cells #[.int .i64 a0_0, .int .i64 a0_1, .slice (some ad248) l0_2.length c0_2] 37 (0, 0))) := ⟨by (with_reducible repeat (first | refine blk_drewN ?_ _ | refine blk_drew ?_ | refine blk_alloc ?_ _)); refine blk_far ?_ NB245_249.out _; (with_reducible repeat (first | refine blk_drewN ?_ _ | refine blk_drew ?_ | refine blk_alloc ?_ _)); refine blk_far ?_ NB245_249.out _; (with_reducible repeat (first | refine blk_drewN ?_ _ | refine blk_drew ?_ | refine blk_alloc ?_ _)); exact BK245.out⟩
            have n1_ : Aside0 (((w14.setCell ⟨gb249, 0, none⟩ (.slice A248_0 ((rd_T84 l0_2 x3_2).f0).length c248_0)).setCell ⟨gb249, 1, none⟩ (.string ((rd_T84 l0_2 x3_2).f1))).heap[gb249]? = some (.cells #[.slice A248_0 ((rd_T84 l0_2 x3_2).f0).length c248_0, .string ((rd_T84 l0_2 x3_2).f1)] 84 (0, 0))) := ⟨by (with_reducible repeat (first | refine blk_drewN ?_ _ | refine blk_drew ?_ | refine blk_alloc ?_ _)); refine blk_put (cs := #[.slice A248_0 ((rd_T84 l0_2 x3_2).f0).length c248_0, .string (⟨#[]⟩ : ByteArray)]) ?_ 1 _ rfl; (with_reducible repeat (first | refine blk_drewN ?_ _ | refine blk_drew ?_ | refine blk_alloc ?_ _)); refine blk_put (cs := #[.slice none 0 0, .string (⟨#[]⟩ : ByteArray)]) ?_ 0 _ rfl; (with_reducible repeat (first | refine blk_drewN ?_ _ | refine blk_drew ?_ | refine blk_alloc ?_ _)); exact BK249.out⟩
            have n2_ : Aside0 (Below w.heap.size w ((w14.setCell ⟨gb249, 0, none⟩ (.slice A248_0 ((rd_T84 l0_2 x3_2).f0).length c248_0)).setCell ⟨gb249, 1, none⟩ (.string ((rd_T84 l0_2 x3_2).f1)))) := ⟨by repeat (first | (with_reducible first | exact HB.out | apply below_alloc | apply pw_below_drewN | apply below_drew1 | refine below_set ?_ GE245.out | refine below_set ?_ GE249.out) | exact HB.out)⟩
            (try clear BK245)
            (try clear BK249)
            (try clear HB)
            generalize ((w14.setCell ⟨gb249, 0, none⟩ (.slice A248_0 ((rd_T84 l0_2 x3_2).f0).length c248_0)).setCell ⟨gb249, 1, none⟩ (.string ((rd_T84 l0_2 x3_2).f1))) = w33 at n0_ n1_ n2_ ⊢
            have BK245 := n0_
            have BK249 := n1_
            have HB := n2_
            clear n0_ n1_ n2_
            have n0_ := Aside0.mk (blk_drew BK245.out)
            have n1_ := Aside0.mk (blk_drew BK249.out)
            have n2_ := Aside0.mk (below_drew1 HB.out)
            clear BK245
            clear BK249
            clear HB
            have BK245 := n0_
            have BK249 := n1_
            have HB := n2_
            clear n0_ n1_ n2_
            refine start_ (n := 40) (S := fun w' => w'.cell? ⟨gb249, 0, none⟩ = some (.slice A248_0 ((rd_T84 l0_2 x3_2).f0).length c248_0) ∧ w'.cell? ⟨gb249, 1, none⟩ = some (.string ((rd_T84 l0_2 x3_2).f1)) ∧ w'.cell? ⟨gb245, 0, none⟩ = some (.int .i64 a0_0) ∧ w'.cell? ⟨gb245, 1, none⟩ = some (.int .i64 a0_1) ∧ w'.cell? ⟨gb245, 2, none⟩ = some (.slice (some ad248) l0_2.length c0_2)) (ds := []) (.replicate 40 false) (by kernel_rfl) rfl rfl ⟨cz_ BK249.out 0 rfl, cz_ BK249.out 1 rfl, cz_ BK245.out 0 rfl, cz_ BK245.out 1 rfl, cz_ BK245.out 2 rfl⟩ (fun hHeld => ?_); refine with_tabW spec_SolverOk.tab7 spec_SolverOk.bits7 (fun HT_ HW_ => ?_)
            generalize w33.drew = w34 at BK245 BK249 HB hHeld ⊢
            refine pu_ 0 (some 29) (bv 40 1) rfl rfl (any_of HT_.out (by kernel_rfl)) (fun _ _ _ h => h) (by rfl) (fun w' => by go_simp; with_reducible rfl) (by simp only [Act.put, eA_, e0_, eS_, i64_w, i32_w]; rfl) ?_
            refine pu_ 2 (some 31) (bv 40 5) rfl rfl (any_of HT_.out (by kernel_rfl)) (fun _ _ _ h => h) (by rfl) (fun w' => by go_simp; with_reducible rfl) (by simp only [Act.put, eA_, e0_, eS_, i64_w, i32_w]; rfl) ?_
            refine tk_ 1 (some 30) (bv 40 7) rfl rfl (take_ofW HT_.out HW_.out (by kernel_rfl)) (fun _ _ _ h => h) (by rfl) hHeld (fun w' ⟨s0, s1, s2, s3, s4⟩ => by go_simp; with_reducible rfl) (by simp only [Act.put, eA_, e0_, eS_, i64_w, i32_w]; rfl) ?_
            refine tk_ 3 (some 32) (bv 40 15) rfl rfl (take_ofW HT_.out HW_.out (by kernel_rfl)) (fun _ _ _ h => h) (by rfl) hHeld (fun w' ⟨s0, s1, s2, s3, s4⟩ => by go_simp; with_reducible rfl) (by simp only [Act.put, eA_, e0_, eS_, i64_w, i32_w]; rfl) ?_
            refine one_ (i := 4) (N := some 33) (bv 40 31) rfl rfl (one_of HT_.out (by kernel_rfl)) (by decide) (fun K hK => ?_)
            refine goes_ Try.func20 (by kernel_rfl) rfl #[.slice A248_0 ((rd_T84 l0_2 x3_2).f0).length c248_0, .int .i64 a0_0] (by rfl) rfl rfl (by (try simp only [List.map_toArray, List.map_cons, List.map_nil]); first | done | rfl | (simp only [List.length_drop, List.length_take]; rfl)) ?_
            with_reducible refine (spec_RowOk.calls k2 _ _ ((rd_T84 l0_2 x3_2).f0) a0_0 true _ ?side1 ?side2 A17.out).mono ?_
            (case side1 => exact gC (Kd.C_below HR248_0.out HB.out))
            (case side2 => exact HC248_0.out)
            rintro e w' ⟨rfl, ⟨nd, rfl⟩⟩
            refine ⟨_, rfl, ?_⟩
            refine hK.out _ _ ⟨cz_ BK249.out 0 rfl, cz_ BK249.out 1 rfl, cz_ BK245.out 0 rfl, cz_ BK245.out 1 rfl, cz_ BK245.out 2 rfl⟩ (fun hHeld => ?_)
            clear hK K
            refine norm_ (a' := ?_) ?_ ?_
            rotate_left
            ·show Act.put _ (some 33) _ = _
             simp only [Act.put, eA_, e0_, eS_, i64_w, i32_w]
             rfl
            refine pu_ 5 (some 34) (bv 40 63) rfl rfl (any_of HT_.out (by kernel_rfl)) (fun _ _ _ h => h) (by rfl) (fun w' => by go_simp; with_reducible rfl) (by simp only [Act.put, eA_, e0_, eS_, i64_w, i32_w]; rfl) ?_
            refine pu_ 6 (some 35) (bv 40 127) rfl rfl (any_of HT_.out (by kernel_rfl)) (fun _ _ _ h => h) (by rfl) (fun w' => by go_simp; with_reducible rfl) (by simp only [Act.put, eA_, e0_, eS_, i64_w, i32_w]; rfl) ?_
            refine pu_ 7 (some 36) (bv 40 255) rfl rfl (any_of HT_.out (by kernel_rfl)) (fun _ _ _ h => h) (by rfl) (fun w' => by go_simp; with_reducible rfl) (by simp only [Act.put, eA_, e0_, eS_, i64_w, i32_w]; rfl) ?_
            refine tk_ 8 (some 37) (bv 40 511) rfl rfl (take_ofW HT_.out HW_.out (by kernel_rfl)) (fun _ _ _ h => h) (by rfl) hHeld (fun w' ⟨s0, s1, s2, s3, s4⟩ => by go_simp; with_reducible rfl) (by simp only [Act.put, eA_, e0_, eS_, i64_w, i32_w]; rfl) ?_
            refine pu_ 9 (some 38) (bv 40 1023) rfl rfl (any_of HT_.out (by kernel_rfl)) (fun _ _ _ h => h) (by rfl) (fun w' => by go_simp; with_reducible rfl) (by simp only [Act.put, eA_, e0_, eS_, i64_w, i32_w]; rfl) ?_
            refine pu_ 10 (some 39) (bv 40 2047) rfl rfl (any_of HT_.out (by kernel_rfl)) (fun _ _ _ h => h) (by rfl) (fun w' => by go_simp; with_reducible rfl) (by simp only [Act.put, eA_, e0_, eS_, i64_w, i32_w]; rfl) ?_
            refine pu_ 11 (some 40) (bv 40 4095) rfl rfl (any_of HT_.out (by kernel_rfl)) (fun _ _ _ h => h) (by rfl) (fun w' => by go_simp; with_reducible rfl) (by simp only [Act.put, eA_, e0_, eS_, i64_w, i32_w]; rfl) ?_
            refine pu_ 12 (some 41) (bv 40 8191) rfl rfl (any_of HT_.out (by kernel_rfl)) (fun _ _ _ h => h) (by rfl) (fun w' => by go_simp; with_reducible rfl) (by simp only [Act.put, eA_, e0_, eS_, i64_w, i32_w]; rfl) ?_
            refine pu_ 13 (some 42) (bv 40 16383) rfl rfl (any_of HT_.out (by kernel_rfl)) (fun _ _ _ h => h) (by rfl) (fun w' => by go_simp; with_reducible rfl) (by simp only [Act.put, eA_, e0_, eS_, i64_w, i32_w]; rfl) ?_
            refine pu_ 16 (some 45) (bv 40 81919) rfl rfl (any_of HT_.out (by kernel_rfl)) (fun _ _ _ h => h) (by rfl) (fun w' => by go_simp; with_reducible rfl) (by simp only [Act.put, eA_, e0_, eS_, i64_w, i32_w]; rfl) ?_
            refine tk_ 14 (some 43) (bv 40 98303) rfl rfl (take_ofW HT_.out HW_.out (by kernel_rfl)) (fun _ _ _ h => h) (by rfl) hHeld (fun w' ⟨s0, s1, s2, s3, s4⟩ => by go_simp; with_reducible rfl) (by simp only [Act.put, eA_, e0_, eS_, i64_w, i32_w]; rfl) ?_
            refine pu_ 15 (some 44) (bv 40 131071) rfl rfl (any_of HT_.out (by kernel_rfl)) (fun _ _ _ h => h) (by rfl) (fun w' => by go_simp; with_reducible rfl) (by simp only [Act.put, eA_, e0_, eS_, i64_w, i32_w]; rfl) ?_
            refine tk_ 17 (some 46) (bv 40 262143) rfl rfl (take_ofW HT_.out HW_.out (by kernel_rfl)) (fun _ _ _ h => h) (by rfl) hHeld (fun w' ⟨s0, s1, s2, s3, s4⟩ => by go_simp; with_reducible rfl) (by simp only [Act.put, eA_, e0_, eS_, i64_w, i32_w]; rfl) ?_
            refine pu_ 18 (some 47) (bv 40 524287) rfl rfl (any_of HT_.out (by kernel_rfl)) (fun _ _ _ h => h) (by rfl) (fun w' => by go_simp; with_reducible rfl) (by simp only [Act.put, eA_, e0_, eS_, i64_w, i32_w]; rfl) ?_
            refine pu_ 19 (some 48) (bv 40 1048575) rfl rfl (any_of HT_.out (by kernel_rfl)) (fun _ _ _ h => h) (by rfl) (fun w' => by go_simp; with_reducible rfl) (by simp only [Act.put, eA_, e0_, eS_, i64_w, i32_w]; rfl) ?_
            refine pu_ 20 (some 49) (bv 40 2097151) rfl rfl (any_of HT_.out (by kernel_rfl)) (fun _ _ _ h => h) (by rfl) (fun w' => by go_simp; with_reducible rfl) (by simp only [Act.put, eA_, e0_, eS_, i64_w, i32_w]; rfl) ?_
            refine sk_ 18 [21, 22, 23, 24, 25, 26, 27, 28, 29, 30, 31, 32, 33, 34, 35, 36, 37, 38] [50, 51, 52, 53, 54, 55, 56, 57, 58, 59, 60, 61, 62, 63, 64, 65, 66, 67] (bv 40 549755813887) rfl (skB_of HT_.out (by kernel_rfl)) (by kernel_rfl) (fun _ _ _ _ _ h => h) (by simp only [putU, Act.put, eA_, e0_, eS_]; rfl) ?_
            refine pu_ 39 (some 68) (bv 40 1099511627775) rfl rfl (any_of HT_.out (by kernel_rfl)) (fun _ _ _ h => h) (by rfl) (fun w' => by go_simp; with_reducible rfl) (by simp only [Act.put, eA_, e0_, eS_, i64_w, i32_w]; rfl) ?_
            refine done_ (done_of HT_.out (by kernel_rfl)) ?_
            try go_wp2
            go_meet
            case rel => exact ⟨_, (true), (by first | rfl | (simp; done) | (simp [*]; done) | (simp [wrap64]; done)), H', ⟨by have := HJ1.out; have := HK2.out; first | omega | exact Nat.le_refl _⟩, ⟨by (with_reducible repeat (first | refine blk_drewN ?_ _ | refine blk_drew ?_ | refine blk_alloc ?_ _)); exact BK245.out⟩, ⟨by (with_reducible repeat (first | refine blk_drewN ?_ _ | refine blk_drew ?_ | refine blk_alloc ?_ _)); exact BK249.out⟩, ⟨by repeat (first | (with_reducible first | exact HB.out | apply below_alloc | apply pw_below_drewN | apply below_drew1 | refine below_set ?_ GE245.out | refine below_set ?_ GE249.out) | exact HB.out)⟩⟩
         ·replace c18 := Bool.eq_false_iff.mpr c18
          subst c18
          have H1 : (spec_SolverOk.j2 k2 x3_2 true a0_0 a0_1 l0_2) = some r := by rw [if_neg (show ¬ (false = true) by decide)] at H; exact H
          clear H
          have H := H1
          clear H1
          have H' := Aside0.mk H
          clear H
          try go_wp2
          have n0_ : Aside0 (((w14.setCell ⟨gb249, 0, none⟩ (.slice A248_0 ((rd_T84 l0_2 x3_2).f0).length c248_0)).setCell ⟨gb249, 1, none⟩ (.string ((rd_T84 l0_2 x3_2).f1))).heap[gb245]? = some (.cells #[.int .i64 a0_0, .int .i64 a0_1, .slice (some ad248) l0_2.length c0_2] 37 (0, 0))) := ⟨by (with_reducible repeat (first | refine blk_drewN ?_ _ | refine blk_drew ?_ | refine blk_alloc ?_ _)); refine blk_far ?_ NB245_249.out _; (with_reducible repeat (first | refine blk_drewN ?_ _ | refine blk_drew ?_ | refine blk_alloc ?_ _)); refine blk_far ?_ NB245_249.out _; (with_reducible repeat (first | refine blk_drewN ?_ _ | refine blk_drew ?_ | refine blk_alloc ?_ _)); exact BK245.out⟩
          have n1_ : Aside0 (((w14.setCell ⟨gb249, 0, none⟩ (.slice A248_0 ((rd_T84 l0_2 x3_2).f0).length c248_0)).setCell ⟨gb249, 1, none⟩ (.string ((rd_T84 l0_2 x3_2).f1))).heap[gb249]? = some (.cells #[.slice A248_0 ((rd_T84 l0_2 x3_2).f0).length c248_0, .string ((rd_T84 l0_2 x3_2).f1)] 84 (0, 0))) := ⟨by (with_reducible repeat (first | refine blk_drewN ?_ _ | refine blk_drew ?_ | refine blk_alloc ?_ _)); refine blk_put (cs := #[.slice A248_0 ((rd_T84 l0_2 x3_2).f0).length c248_0, .string (⟨#[]⟩ : ByteArray)]) ?_ 1 _ rfl; (with_reducible repeat (first | refine blk_drewN ?_ _ | refine blk_drew ?_ | refine blk_alloc ?_ _)); refine blk_put (cs := #[.slice none 0 0, .string (⟨#[]⟩ : ByteArray)]) ?_ 0 _ rfl; (with_reducible repeat (first | refine blk_drewN ?_ _ | refine blk_drew ?_ | refine blk_alloc ?_ _)); exact BK249.out⟩
          have n2_ : Aside0 (Below w.heap.size w ((w14.setCell ⟨gb249, 0, none⟩ (.slice A248_0 ((rd_T84 l0_2 x3_2).f0).length c248_0)).setCell ⟨gb249, 1, none⟩ (.string ((rd_T84 l0_2 x3_2).f1)))) := ⟨by repeat (first | (with_reducible first | exact HB.out | apply below_alloc | apply pw_below_drewN | apply below_drew1 | refine below_set ?_ GE245.out | refine below_set ?_ GE249.out) | exact HB.out)⟩
          (try clear BK245)
          (try clear BK249)
          (try clear HB)
          generalize ((w14.setCell ⟨gb249, 0, none⟩ (.slice A248_0 ((rd_T84 l0_2 x3_2).f0).length c248_0)).setCell ⟨gb249, 1, none⟩ (.string ((rd_T84 l0_2 x3_2).f1))) = w35 at n0_ n1_ n2_ ⊢
          have BK245 := n0_
          have BK249 := n1_
          have HB := n2_
          clear n0_ n1_ n2_
          have n0_ := Aside0.mk (blk_drew BK245.out)
          have n1_ := Aside0.mk (blk_drew BK249.out)
          have n2_ := Aside0.mk (below_drew1 HB.out)
          clear BK245
          clear BK249
          clear HB
          have BK245 := n0_
          have BK249 := n1_
          have HB := n2_
          clear n0_ n1_ n2_
          refine start_ (n := 40) (S := fun w' => w'.cell? ⟨gb249, 0, none⟩ = some (.slice A248_0 ((rd_T84 l0_2 x3_2).f0).length c248_0) ∧ w'.cell? ⟨gb249, 1, none⟩ = some (.string ((rd_T84 l0_2 x3_2).f1)) ∧ w'.cell? ⟨gb245, 0, none⟩ = some (.int .i64 a0_0) ∧ w'.cell? ⟨gb245, 1, none⟩ = some (.int .i64 a0_1) ∧ w'.cell? ⟨gb245, 2, none⟩ = some (.slice (some ad248) l0_2.length c0_2)) (ds := []) (.replicate 40 false) (by kernel_rfl) rfl rfl ⟨cz_ BK249.out 0 rfl, cz_ BK249.out 1 rfl, cz_ BK245.out 0 rfl, cz_ BK245.out 1 rfl, cz_ BK245.out 2 rfl⟩ (fun hHeld => ?_); refine with_tabW spec_SolverOk.tab7 spec_SolverOk.bits7 (fun HT_ HW_ => ?_)
          generalize w35.drew = w36 at BK245 BK249 HB hHeld ⊢
          refine pu_ 0 (some 29) (bv 40 1) rfl rfl (any_of HT_.out (by kernel_rfl)) (fun _ _ _ h => h) (by rfl) (fun w' => by go_simp; with_reducible rfl) (by simp only [Act.put, eA_, e0_, eS_, i64_w, i32_w]; rfl) ?_
          refine pu_ 2 (some 31) (bv 40 5) rfl rfl (any_of HT_.out (by kernel_rfl)) (fun _ _ _ h => h) (by rfl) (fun w' => by go_simp; with_reducible rfl) (by simp only [Act.put, eA_, e0_, eS_, i64_w, i32_w]; rfl) ?_
          refine tk_ 1 (some 30) (bv 40 7) rfl rfl (take_ofW HT_.out HW_.out (by kernel_rfl)) (fun _ _ _ h => h) (by rfl) hHeld (fun w' ⟨s0, s1, s2, s3, s4⟩ => by go_simp; with_reducible rfl) (by simp only [Act.put, eA_, e0_, eS_, i64_w, i32_w]; rfl) ?_
          refine tk_ 3 (some 32) (bv 40 15) rfl rfl (take_ofW HT_.out HW_.out (by kernel_rfl)) (fun _ _ _ h => h) (by rfl) hHeld (fun w' ⟨s0, s1, s2, s3, s4⟩ => by go_simp; with_reducible rfl) (by simp only [Act.put, eA_, e0_, eS_, i64_w, i32_w]; rfl) ?_
          refine one_ (i := 4) (N := some 33) (bv 40 31) rfl rfl (one_of HT_.out (by kernel_rfl)) (by decide) (fun K hK => ?_)
          refine goes_ Try.func20 (by kernel_rfl) rfl #[.slice A248_0 ((rd_T84 l0_2 x3_2).f0).length c248_0, .int .i64 a0_0] (by rfl) rfl rfl (by (try simp only [List.map_toArray, List.map_cons, List.map_nil]); first | done | rfl | (simp only [List.length_drop, List.length_take]; rfl)) ?_
          with_reducible refine (spec_RowOk.calls k2 _ _ ((rd_T84 l0_2 x3_2).f0) a0_0 false _ ?side1 ?side2 A17.out).mono ?_
          (case side1 => exact gC (Kd.C_below HR248_0.out HB.out))
          (case side2 => exact HC248_0.out)
          rintro e w' ⟨rfl, ⟨nd, rfl⟩⟩
          refine ⟨_, rfl, ?_⟩
          refine hK.out _ _ ⟨cz_ BK249.out 0 rfl, cz_ BK249.out 1 rfl, cz_ BK245.out 0 rfl, cz_ BK245.out 1 rfl, cz_ BK245.out 2 rfl⟩ (fun hHeld => ?_)
          clear hK K
          refine norm_ (a' := ?_) ?_ ?_
          rotate_left
          ·show Act.put _ (some 33) _ = _
           simp only [Act.put, eA_, e0_, eS_, i64_w, i32_w]
           rfl
          refine pu_ 5 (some 34) (bv 40 63) rfl rfl (any_of HT_.out (by kernel_rfl)) (fun _ _ _ h => h) (by rfl) (fun w' => by go_simp; with_reducible rfl) (by simp only [Act.put, eA_, e0_, eS_, i64_w, i32_w]; rfl) ?_
          refine pu_ 6 (some 35) (bv 40 127) rfl rfl (any_of HT_.out (by kernel_rfl)) (fun _ _ _ h => h) (by rfl) (fun w' => by go_simp; with_reducible rfl) (by simp only [Act.put, eA_, e0_, eS_, i64_w, i32_w]; rfl) ?_
          refine sk_ 4 [7, 8, 9, 10] [36, 37, 38, 39] (bv 40 2047) rfl (skB_of HT_.out (by kernel_rfl)) (by kernel_rfl) (fun _ _ _ _ _ h => h) (by simp only [putU, Act.put, eA_, e0_, eS_]; rfl) ?_
          refine pu_ 11 (some 40) (bv 40 4095) rfl rfl (any_of HT_.out (by kernel_rfl)) (fun _ _ _ h => h) (by rfl) (fun w' => by go_simp; with_reducible rfl) (by simp only [Act.put, eA_, e0_, eS_, i64_w, i32_w]; rfl) ?_
          refine pu_ 12 (some 41) (bv 40 8191) rfl rfl (any_of HT_.out (by kernel_rfl)) (fun _ _ _ h => h) (by rfl) (fun w' => by go_simp; with_reducible rfl) (by simp only [Act.put, eA_, e0_, eS_, i64_w, i32_w]; rfl) ?_
          refine sk_ 6 [13, 14, 15, 16, 17, 18] [42, 43, 44, 45, 46, 47] (bv 40 524287) rfl (skB_of HT_.out (by kernel_rfl)) (by kernel_rfl) (fun _ _ _ _ _ h => h) (by simp only [putU, Act.put, eA_, e0_, eS_]; rfl) ?_
          refine pu_ 19 (some 48) (bv 40 1048575) rfl rfl (any_of HT_.out (by kernel_rfl)) (fun _ _ _ h => h) (by rfl) (fun w' => by go_simp; with_reducible rfl) (by simp only [Act.put, eA_, e0_, eS_, i64_w, i32_w]; rfl) ?_
          refine pu_ 20 (some 49) (bv 40 2097151) rfl rfl (any_of HT_.out (by kernel_rfl)) (fun _ _ _ h => h) (by rfl) (fun w' => by go_simp; with_reducible rfl) (by simp only [Act.put, eA_, e0_, eS_, i64_w, i32_w]; rfl) ?_
          refine sk_ 18 [21, 22, 23, 24, 25, 26, 27, 28, 29, 30, 31, 32, 33, 34, 35, 36, 37, 38] [50, 51, 52, 53, 54, 55, 56, 57, 58, 59, 60, 61, 62, 63, 64, 65, 66, 67] (bv 40 549755813887) rfl (skB_of HT_.out (by kernel_rfl)) (by kernel_rfl) (fun _ _ _ _ _ h => h) (by simp only [putU, Act.put, eA_, e0_, eS_]; rfl) ?_
          refine pu_ 39 (some 68) (bv 40 1099511627775) rfl rfl (any_of HT_.out (by kernel_rfl)) (fun _ _ _ h => h) (by rfl) (fun w' => by go_simp; with_reducible rfl) (by simp only [Act.put, eA_, e0_, eS_, i64_w, i32_w]; rfl) ?_
          refine done_ (done_of HT_.out (by kernel_rfl)) ?_
          try go_wp2
          go_meet
          case rel => exact ⟨_, (true), (by first | rfl | (simp; done) | (simp [*]; done) | (simp [wrap64]; done)), H', ⟨by have := HJ1.out; have := HK2.out; first | omega | exact Nat.le_refl _⟩, ⟨by (with_reducible repeat (first | refine blk_drewN ?_ _ | refine blk_drew ?_ | refine blk_alloc ?_ _)); exact BK245.out⟩, ⟨by (with_reducible repeat (first | refine blk_drewN ?_ _ | refine blk_drew ?_ | refine blk_alloc ?_ _)); exact BK249.out⟩, ⟨by repeat (first | (with_reducible first | exact HB.out | apply below_alloc | apply pw_below_drewN | apply below_drew1 | refine below_set ?_ GE245.out | refine below_set ?_ GE249.out) | exact HB.out)⟩⟩
        case rest =>
         clear HC12
         try clear c1
         try clear c2
         try clear p2
         try clear c18
         try clear c20
         try clear c22
         try clear c22b0
         try clear c22b1
         try clear c24
         obtain ⟨kq, x68_11, rfl, HA, HJ11, BK245, BK249, HB⟩ := hcut
         cases kq with
         | zero => exact absurd HA.out (by simp [spec_SolverOk.j2])
         | succ kj11 =>
          have H := HA.out
          clear HA
          simp only [spec_SolverOk.j2] at H
          by_cases c37 : x68_11 = true
          ·subst c37
           have H1 : (some false) = some r := by rw [if_pos rfl] at H; exact H
           clear H
           have H := H1
           clear H1
           obtain rfl := Option.some.inj H
           go_wp2
           go_ret
           exact ⟨by first | rfl | (simp [errW_none, errW_some] <;> rfl) | (simp [*, errW_none, errW_some] <;> rfl), by repeat (first | (with_reducible first | exact HB.out | apply below_alloc | apply pw_below_drewN | apply below_drew1 | refine below_set ?_ GE245.out | refine below_set ?_ GE249.out) | exact HB.out)⟩
          ·replace c37 := Bool.eq_false_iff.mpr c37
           subst c37
           have H1 : (spec_SolverOk.l0 kj11 (wrap64 (x3_2 + 1)) a0_0 a0_1 l0_2) = some r := by rw [if_neg (show ¬ (false = true) by decide)] at H; exact H
           clear H
           have H := H1
           clear H1
           have H' := Aside0.mk H
           clear H
           go_wp2
           go_roundg kj11
           case measure => have := HJ1.out; have := HK2.out; have := HJ11.out; omega
           case rel => exact ⟨(wrap64 (x3_2 + 1)), (by first | rfl | (simp; done) | (simp [*]; done) | (simp [wrap64]; done)), H', ⟨by have := HJ1.out; have := HK2.out; have := HJ11.out; omega⟩, ⟨by (with_reducible repeat (first | refine blk_drewN ?_ _ | refine blk_drew ?_ | refine blk_alloc ?_ _)); exact BK245.out⟩, ⟨by repeat (first | (with_reducible first | exact HB.out | apply below_alloc | apply pw_below_drewN | apply below_drew1 | refine below_set ?_ GE245.out | refine below_set ?_ GE249.out) | exact HB.out)⟩⟩
       ·rw [if_neg c11] at H
        exact absurd H (by simp)
      ·rw [if_neg c10] at H
       have c10b0 : decide (x3_2 < (l0_2.length : Int)) = false := decide_eq_false c10
       clear c10
       have H' := Aside0.mk H
       clear H
       have hcz38_0 := cz_ BK245.out 0 rfl
       have hcz38_1 := cz_ BK245.out 1 rfl
       have hcz38_2 := cz_ BK245.out 2 rfl
       have hfz38_0 := blk_frozen BK245.out 0
       have hfz38_1 := blk_frozen BK245.out 1
       have hfz38_2 := blk_frozen BK245.out 2
       go_wp2
       go_loopg [5] k2 (fun kq v5 w' => ∃ (x5_3 : Int), v5 = .int .i64 x5_3 ∧ Aside0 (spec_SolverOk.l1 kq x5_3 a0_0 a0_1 l0_2 = some r) ∧ Aside0 (kq ≤ k2) ∧ Aside0 (w'.heap[gb245]? = some (.cells #[.int .i64 a0_0, .int .i64 a0_1, (.slice A0_2 l0_2.length c0_2)] 37 (0, 0))) ∧ Aside0 (Below w.heap.size w w'))
       case atStart => exact ⟨(0), (by first | rfl | (simp; done) | (simp [*]; done) | (simp [wrap64]; done)), H', ⟨Nat.le_refl _⟩, ⟨by (with_reducible repeat (first | refine blk_drewN ?_ _ | refine blk_drew ?_ | refine blk_alloc ?_ _)); exact BK245.out⟩, ⟨by repeat (first | (with_reducible first | exact HB.out | apply below_alloc | apply pw_below_drewN | apply below_drew1 | refine below_set ?_ GE245.out) | exact HB.out)⟩⟩
       case round =>
        clear H'
        try clear c1
        try clear c2
        try clear p2
        try clear c3
        try clear p6
        try clear c10
        try clear c10b0
        try clear c11
        try clear c18
        try clear c20
        try clear c22
        try clear c22b0
        try clear c22b1
        try clear c24
        try clear c37
        try clear hcz38_0
        try clear hcz38_1
        try clear hcz38_2
        try clear hfz38_0
        try clear hfz38_1
        try clear hfz38_2
        try clear p2
        obtain ⟨x5_3, rfl, HA, HK3, BK245, HB⟩ := hrel
        cases gk with
        | zero => exact absurd HA.out (by simp [spec_SolverOk.l1])
        | succ k3 =>
         have H := HA.out
         clear HA
         simp only [spec_SolverOk.l1] at H
         by_cases c39 : x5_3 < (l0_2.length : Int)
         ·rw [if_pos c39] at H
          have c39b0 : decide (x5_3 < (l0_2.length : Int)) = true := decide_eq_true c39
          clear c39
          have H' := Aside0.mk H
          clear H
          have hcz40_0 := cz_ BK245.out 0 rfl
          have hcz40_1 := cz_ BK245.out 1 rfl
          have hcz40_2 := cz_ BK245.out 2 rfl
          have hfz40_0 := blk_frozen BK245.out 0
          have hfz40_1 := blk_frozen BK245.out 1
          have hfz40_2 := blk_frozen BK245.out 2
          go_wp2
          go_loopg [6] k3 (fun kq v6 w' => ∃ (x6_4 : Int), v6 = .int .i64 x6_4 ∧ Aside0 (spec_SolverOk.l2 kq x5_3 x6_4 a0_0 a0_1 l0_2 = some r) ∧ Aside0 (kq ≤ k3) ∧ Aside0 (w'.heap[gb245]? = some (.cells #[.int .i64 a0_0, .int .i64 a0_1, (.slice A0_2 l0_2.length c0_2)] 37 (0, 0))) ∧ Aside0 (Below w.heap.size w w'))
          case atStart => exact ⟨(0), (by first | rfl | (simp; done) | (simp [*]; done) | (simp [wrap64]; done)), H', ⟨Nat.le_refl _⟩, ⟨by (with_reducible repeat (first | refine blk_drewN ?_ _ | refine blk_drew ?_ | refine blk_alloc ?_ _)); exact BK245.out⟩, ⟨by repeat (first | (with_reducible first | exact HB.out | apply below_alloc | apply pw_below_drewN | apply below_drew1 | refine below_set ?_ GE245.out) | exact HB.out)⟩⟩
          case round =>
           clear H'
           try clear c1
           try clear c2
           try clear p2
           try clear c3
           try clear p6
           try clear c10
           try clear c10b0
           try clear c11
           try clear c18
           try clear c20
           try clear c22
           try clear c22b0
           try clear c22b1
           try clear c24
           try clear c37
           try clear c39
           try clear c39b0
           try clear hcz38_0
           try clear hcz38_1
           try clear hcz38_2
           try clear hcz40_0
           try clear hcz40_1
           try clear hcz40_2
           try clear hfz38_0
           try clear hfz38_1
           try clear hfz38_2
           try clear hfz40_0
           try clear hfz40_1
           try clear hfz40_2
           try clear p2
           try clear p6
           obtain ⟨x6_4, rfl, HA, HK4, BK245, HB⟩ := hrel
           cases gk with
           | zero => exact absurd HA.out (by simp [spec_SolverOk.l2])
           | succ k4 =>
            have H := HA.out
            clear HA
            simp only [spec_SolverOk.l2] at H
            by_cases c41 : x6_4 < (l0_2.length : Int)
            ·rw [if_pos c41] at H
             have c41b0 : decide (x6_4 < (l0_2.length : Int)) = true := decide_eq_true c41
             clear c41
             by_cases c42 : x6_4 = x5_3
             ·rw [if_pos c42] at H
              have c42b0 : (x6_4 == x5_3) = true := beq_iff_eq.mpr c42
              have c42b1 : (x6_4 != x5_3) = false := bne_eq_false_iff_eq.mpr c42
              clear c42
              have H' := Aside0.mk H
              clear H
              have hcz43_0 := cz_ BK245.out 0 rfl
              have hcz43_1 := cz_ BK245.out 1 rfl
              have hcz43_2 := cz_ BK245.out 2 rfl
              have hfz43_0 := blk_frozen BK245.out 0
              have hfz43_1 := blk_frozen BK245.out 1
              have hfz43_2 := blk_frozen BK245.out 2
              try go_wp2
              have n0_ := Aside0.mk (blk_drew BK245.out)
              have n1_ := Aside0.mk (below_drew1 HB.out)
              clear BK245
              clear HB
              have BK245 := n0_
              have HB := n1_
              clear n0_ n1_
              refine start_ (n := 20) (S := fun w' => True) (ds := []) (.replicate 20 false) (by kernel_rfl) rfl rfl trivial (fun hHeld => ?_); refine with_tabW spec_SolverOk.tab15 spec_SolverOk.bits15 (fun HT_ HW_ => ?_)
              generalize wr.drew = w44 at BK245 HB hHeld ⊢
              refine pu_ 0 (some 83) (bv 20 1) rfl rfl (any_of HT_.out (by kernel_rfl)) (fun _ _ _ h => h) (by rfl) (fun w' => by go_simp; with_reducible rfl) (by simp only [Act.put, eA_, e0_, eS_, i64_w, i32_w]; rfl) ?_
              refine pu_ 1 (some 84) (bv 20 3) rfl rfl (any_of HT_.out (by kernel_rfl)) (fun _ _ _ h => h) (by rfl) (fun w' => by go_simp; with_reducible rfl) (by simp only [Act.put, eA_, e0_, eS_, i64_w, i32_w]; rfl) ?_
              refine pu_ 2 (some 85) (bv 20 7) rfl rfl (any_of HT_.out (by kernel_rfl)) (fun _ _ _ h => h) (by rfl) (fun w' => by go_simp; with_reducible rfl) (by simp only [Act.put, eA_, e0_, eS_, i64_w, i32_w]; rfl) ?_
              refine pu_ 3 (some 86) (bv 20 15) rfl rfl (any_of HT_.out (by kernel_rfl)) (fun _ _ _ h => h) (by rfl) (fun w' => by go_simp; with_reducible rfl) (by simp only [Act.put, eA_, e0_, eS_, i64_w, i32_w]; rfl) ?_
              refine sk_ 15 [4, 5, 6, 7, 8, 9, 10, 11, 12, 13, 14, 15, 16, 17, 18] [87, 88, 89, 90, 91, 92, 93, 94, 95, 96, 97, 98, 99, 100, 101] (bv 20 524287) rfl (skB_of HT_.out (by kernel_rfl)) (by kernel_rfl) (fun _ _ _ _ _ h => h) (by simp only [putU, Act.put, eA_, e0_, eS_]; rfl) ?_
              refine pu_ 19 (some 102) (bv 20 1048575) rfl rfl (any_of HT_.out (by kernel_rfl)) (fun _ _ _ h => h) (by rfl) (fun w' => by go_simp; with_reducible rfl) (by simp only [Act.put, eA_, e0_, eS_, i64_w, i32_w]; rfl) ?_
              refine done_ (done_of HT_.out (by kernel_rfl)) ?_
              try go_wp2
              go_roundg k4
              case measure => have := HJ1.out; have := HK2.out; have := HK3.out; have := HK4.out; omega
              case rel => exact ⟨(wrap64 (x6_4 + 1)), (by first | rfl | (simp; done) | (simp [*]; done) | (simp [wrap64]; done)), H', ⟨by have := HJ1.out; have := HK2.out; have := HK3.out; have := HK4.out; omega⟩, ⟨by (with_reducible repeat (first | refine blk_drewN ?_ _ | refine blk_drew ?_ | refine blk_alloc ?_ _)); exact BK245.out⟩, ⟨by repeat (first | (with_reducible first | exact HB.out | apply below_alloc | apply pw_below_drewN | apply below_drew1 | refine below_set ?_ GE245.out) | exact HB.out)⟩⟩
             ·rw [if_neg c42] at H
              have c42b0 : (x6_4 == x5_3) = false := beq_eq_false_iff_ne.mpr c42
              have c42b1 : (x6_4 != x5_3) = true := bne_iff_ne.mpr c42
              by_cases c45 : 0 ≤ x6_4
              ·rw [if_pos c45] at H
               have c45b0 : decide (0 ≤ x6_4) = true := decide_eq_true c45
               clear c45
               by_cases c46 : 0 ≤ x5_3
               ·rw [if_pos c46] at H
                have c46b0 : decide (0 ≤ x5_3) = true := decide_eq_true c46
                clear c46
                by_cases c47 : x5_3 < (l0_2.length : Int)
                ·rw [if_pos c47] at H
                 have c47b0 : decide (x5_3 < (l0_2.length : Int)) = true := decide_eq_true c47
                 clear c47
                 by_cases c48 : 0 < (((rd_T84 l0_2 x5_3).f0).length : Int)
                 ·rw [if_pos c48] at H
                  have c48b0 : decide (0 < (((rd_T84 l0_2 x5_3).f0).length : Int)) = true := decide_eq_true c48
                  have c48b1 : decide (0 < ((rd_T84 l0_2 x5_3).f0).length) = true := decide_eq_true (by omega)
                  clear c48
                  replace H := bI_ H
                  obtain ⟨t257, A490, H⟩ := H
                  replace H : (if t257 = true then (some false) else (spec_SolverOk.l2 k4 x5_3 (wrap64 (x6_4 + 1)) a0_0 a0_1 l0_2)) = some r := H
                  have A49 := Aside0.mk A490
                  clear A490
                  by_cases c50 : t257 = true
                  ·subst c50
                   have H1 : (some false) = some r := by rw [if_pos rfl] at H; exact H
                   clear H
                   have H := H1
                   clear H1
                   obtain rfl := Option.some.inj H
                   have hcz51_0 := cz_ BK245.out 0 rfl
                   have hcz51_1 := cz_ BK245.out 1 rfl
                   have hcz51_2 := cz_ BK245.out 2 rfl
                   have hfz51_0 := blk_frozen BK245.out 0
                   have hfz51_1 := blk_frozen BK245.out 1
                   have hfz51_2 := blk_frozen BK245.out 2
                   try go_wp2
                   have n0_ := Aside0.mk (blk_drew BK245.out)
                   have n1_ := Aside0.mk (below_drew1 HB.out)
                   clear BK245
                   clear HB
                   have BK245 := n0_
                   have HB := n1_
                   clear n0_ n1_
                   have p254 : 0 ≤ (x6_4 : Int) := of_decide_eq_true (by first | (with_reducible assumption) | assumption)
                   have q254 : x6_4 < (l0_2.length : Int) := of_decide_eq_true (by first | (with_reducible assumption) | assumption)
                   obtain ⟨ad254, A254_0, c254_0, e254, hx254_0, hx254_1, hl254_0, hi254_0⟩ := at_T84 HR0_2.out x6_4 p254 q254
                   have hw254_1 := hx254_1
                   have hw254_0 := hx254_0
                   cases e254
                   replace hx254_0 := (HB.out.cell (World.block_lt_of_cell? w _ hx254_0)).trans hx254_0
                   replace hx254_1 := (HB.out.cell (World.block_lt_of_cell? w _ hx254_1)).trans hx254_1
                   have HR254_0 := Aside0.mk hi254_0
                   have HC254_0 := Aside0.mk hl254_0
                   clear hi254_0 hl254_0
                   replace p254 := eq_true p254
                   replace q254 := eq_true q254
                   have p255 : 0 ≤ (x5_3 : Int) := of_decide_eq_true (by first | (with_reducible assumption) | assumption)
                   have q255 : x5_3 < (l0_2.length : Int) := of_decide_eq_true (by first | (with_reducible assumption) | assumption)
                   obtain ⟨ad255, A255_0, c255_0, e255, hx255_0, hx255_1, hl255_0, hi255_0⟩ := at_T84 HR0_2.out x5_3 p255 q255
                   have hw255_1 := hx255_1
                   have hw255_0 := hx255_0
                   obtain rfl : ad254 = ad255 := (by injection e255)
                   replace hx255_0 := (HB.out.cell (World.block_lt_of_cell? w _ hx255_0)).trans hx255_0
                   replace hx255_1 := (HB.out.cell (World.block_lt_of_cell? w _ hx255_1)).trans hx255_1
                   have HR255_0 := Aside0.mk hi255_0
                   have HC255_0 := Aside0.mk hl255_0
                   clear hi255_0 hl255_0
                   replace p255 := eq_true p255
                   replace q255 := eq_true q255
                   have p256 : 0 ≤ (0 : Int) := (by omega)
                   have q256 : 0 < (((rd_T84 l0_2 x5_3).f0).length : Int) := of_decide_eq_true (by first | (with_reducible assumption) | assumption)
                   obtain ⟨ad256, e256, hx256_0⟩ := Kd.at_int HR255_0.out 0 p256 q256
                   have hw256_0 := hx256_0
                   (try rw [show ((0 : Int)).toNat = 0 from rfl] at hw256_0)
                   (try rw [show 0 * 1 = 0 from rfl] at hw256_0)
                   (try rw [Addr.add_zero'] at hw256_0)
                   cases e256
                   have qi256 : (0 < ((rd_T84 l0_2 x5_3).f0).length) = True := eq_true (by omega)
                   (try rw [show ((0 : Int)).toNat = 0 from rfl] at hx256_0)
                   (try rw [Addr.add_zero'] at hx256_0)
                   replace hx256_0 := (HB.out.cell (World.block_lt_of_cell? w _ hx256_0)).trans hx256_0
                   replace p256 := eq_true p256
                   replace q256 := eq_true q256
                   refine start_ (n := 20) (S := fun w' => w'.cell? ⟨gb245, 0, none⟩ = some (.int .i64 a0_0) ∧ w'.cell? ⟨gb245, 1, none⟩ = some (.int .i64 a0_1) ∧ w'.cell? ⟨gb245, 2, none⟩ = some (.slice (some ad254) l0_2.length c0_2) ∧ w'.cell? (ad254.add ((x6_4).toNat * 2)) = some (.slice A254_0 ((rd_T84 l0_2 x6_4).f0).length c254_0) ∧ w'.cell? ⟨(ad254.add ((x6_4).toNat * 2)).block, (ad254.add ((x6_4).toNat * 2)).off + 1, none⟩ = some (.string ((rd_T84 l0_2 x6_4).f1)) ∧ w'.cell? (ad254.add ((x5_3).toNat * 2)) = some (.slice (some ad256) ((rd_T84 l0_2 x5_3).f0).length c255_0) ∧ w'.cell? ⟨(ad254.add ((x5_3).toNat * 2)).block, (ad254.add ((x5_3).toNat * 2)).off + 1, none⟩ = some (.string ((rd_T84 l0_2 x5_3).f1)) ∧ w'.cell? ad256 = some (.int .i64 (rd ((rd_T84 l0_2 x5_3).f0) 0))) (ds := []) (.replicate 20 false) (by kernel_rfl) rfl rfl ⟨cz_ BK245.out 0 rfl, cz_ BK245.out 1 rfl, cz_ BK245.out 2 rfl, ((HB.out.cell (World.block_lt_of_cell? w _ hw254_0)).trans hw254_0), ((HB.out.cell (World.block_lt_of_cell? w _ hw254_1)).trans hw254_1), ((HB.out.cell (World.block_lt_of_cell? w _ hw255_0)).trans hw255_0), ((HB.out.cell (World.block_lt_of_cell? w _ hw255_1)).trans hw255_1), ((HB.out.cell (World.block_lt_of_cell? w _ hw256_0)).trans hw256_0)⟩ (fun hHeld => ?_); refine with_tabW spec_SolverOk.tab15 spec_SolverOk.bits15 (fun HT_ HW_ => ?_)
                   generalize wr.drew = w52 at BK245 HB HR254_0 HR255_0 hx254_0 hx254_1 hx255_0 hx255_1 hx256_0 hHeld ⊢
                   refine pu_ 0 (some 83) (bv 20 1) rfl rfl (any_of HT_.out (by kernel_rfl)) (fun _ _ _ h => h) (by rfl) (fun w' => by go_simp; with_reducible rfl) (by simp only [Act.put, eA_, e0_, eS_, i64_w, i32_w]; rfl) ?_
                   refine pu_ 1 (some 84) (bv 20 3) rfl rfl (any_of HT_.out (by kernel_rfl)) (fun _ _ _ h => h) (by rfl) (fun w' => by go_simp; with_reducible rfl) (by simp only [Act.put, eA_, e0_, eS_, i64_w, i32_w]; rfl) ?_
                   refine pu_ 2 (some 85) (bv 20 7) rfl rfl (any_of HT_.out (by kernel_rfl)) (fun _ _ _ h => h) (by rfl) (fun w' => by go_simp; with_reducible rfl) (by simp only [Act.put, eA_, e0_, eS_, i64_w, i32_w]; rfl) ?_
                   refine pu_ 3 (some 86) (bv 20 15) rfl rfl (any_of HT_.out (by kernel_rfl)) (fun _ _ _ h => h) (by rfl) (fun w' => by go_simp; with_reducible rfl) (by simp only [Act.put, eA_, e0_, eS_, i64_w, i32_w]; rfl) ?_
                   refine pu_ 4 (some 87) (bv 20 31) rfl rfl (any_of HT_.out (by kernel_rfl)) (fun _ _ _ h => h) (by rfl) (fun w' => by go_simp; with_reducible rfl) (by simp only [Act.put, eA_, e0_, eS_, i64_w, i32_w]; rfl) ?_
                   refine pu_ 6 (some 89) (bv 20 95) rfl rfl (any_of HT_.out (by kernel_rfl)) (fun _ _ _ h => h) (by rfl) (fun w' => by go_simp; with_reducible rfl) (by simp only [Act.put, eA_, e0_, eS_, i64_w, i32_w]; rfl) ?_
                   refine pu_ 10 (some 93) (bv 20 1119) rfl rfl (any_of HT_.out (by kernel_rfl)) (fun _ _ _ h => h) (by rfl) (fun w' => by go_simp; with_reducible rfl) (by simp only [Act.put, eA_, e0_, eS_, i64_w, i32_w]; rfl) ?_
                   refine pu_ 12 (some 95) (bv 20 5215) rfl rfl (any_of HT_.out (by kernel_rfl)) (fun _ _ _ h => h) (by rfl) (fun w' => by go_simp; with_reducible rfl) (by simp only [Act.put, eA_, e0_, eS_, i64_w, i32_w]; rfl) ?_
                   refine tk_ 5 (some 88) (bv 20 5247) rfl rfl (take_ofW HT_.out HW_.out (by kernel_rfl)) (fun _ _ _ h => h) (by rfl) hHeld (fun w' ⟨s0, s1, s2, s3, s4, s5, s6, s7⟩ => by go_simp; with_reducible rfl) (by simp only [Act.put, eA_, e0_, eS_, i64_w, i32_w]; rfl) ?_
                   refine pu_ 7 (some 90) (bv 20 5375) rfl rfl (any_of HT_.out (by kernel_rfl)) (fun _ _ _ h => h) (by rfl) (fun w' => by go_simp; with_reducible rfl) (by simp only [Act.put, eA_, e0_, eS_, i64_w, i32_w]; rfl) ?_
                   refine pu_ 8 (some 91) (bv 20 5631) rfl rfl (any_of HT_.out (by kernel_rfl)) (fun _ _ _ h => h) (by rfl) (fun w' => by go_simp; with_reducible rfl) (by simp only [Act.put, eA_, e0_, eS_, i64_w, i32_w]; rfl) ?_
                   refine tk_ 9 (some 92) (bv 20 6143) rfl rfl (take_ofW HT_.out HW_.out (by kernel_rfl)) (fun _ _ _ h => h) (by rfl) hHeld (fun w' ⟨s0, s1, s2, s3, s4, s5, s6, s7⟩ => by go_simp; with_reducible rfl) (by simp only [Act.put, eA_, e0_, eS_, i64_w, i32_w]; rfl) ?_
                   refine tk_ 11 (some 94) (bv 20 8191) rfl rfl (take_ofW HT_.out HW_.out (by kernel_rfl)) (fun _ _ _ h => h) (by rfl) hHeld (fun w' ⟨s0, s1, s2, s3, s4, s5, s6, s7⟩ => by go_simp; with_reducible rfl) (by simp only [Act.put, eA_, e0_, eS_, i64_w, i32_w]; rfl) ?_
                   refine pu_ 13 (some 96) (bv 20 16383) rfl rfl (any_of HT_.out (by kernel_rfl)) (fun _ _ _ h => h) (by rfl) (fun w' => by go_simp; with_reducible rfl) (by simp only [Act.put, eA_, e0_, eS_, i64_w, i32_w]; rfl) ?_
                   refine pu_ 14 (some 97) (bv 20 32767) rfl rfl (any_of HT_.out (by kernel_rfl)) (fun _ _ _ h => h) (by rfl) (fun w' => by go_simp; with_reducible rfl) (by simp only [Act.put, eA_, e0_, eS_, i64_w, i32_w]; rfl) ?_
                   refine tk_ 15 (some 98) (bv 20 65535) rfl rfl (take_ofW HT_.out HW_.out (by kernel_rfl)) (fun _ _ _ h => h) (by rfl) hHeld (fun w' ⟨s0, s1, s2, s3, s4, s5, s6, s7⟩ => by go_simp; with_reducible rfl) (by simp only [Act.put, eA_, e0_, eS_, i64_w, i32_w]; rfl) ?_
                   refine pu_ 16 (some 99) (bv 20 131071) rfl rfl (any_of HT_.out (by kernel_rfl)) (fun _ _ _ h => h) (by rfl) (fun w' => by go_simp; with_reducible rfl) (by simp only [Act.put, eA_, e0_, eS_, i64_w, i32_w]; rfl) ?_
                   refine tk_ 17 (some 100) (bv 20 262143) rfl rfl (take_ofW HT_.out HW_.out (by kernel_rfl)) (fun _ _ _ h => h) (by rfl) hHeld (fun w' ⟨s0, s1, s2, s3, s4, s5, s6, s7⟩ => by go_simp; with_reducible rfl) (by simp only [Act.put, eA_, e0_, eS_, i64_w, i32_w]; rfl) ?_
                   refine one_ (i := 18) (N := some 101) (bv 20 524287) rfl rfl (one_of HT_.out (by kernel_rfl)) (by decide) (fun K hK => ?_)
                   refine goes_ Try.func69 (by kernel_rfl) rfl #[.slice A254_0 ((rd_T84 l0_2 x6_4).f0).length c254_0, .int .i64 (rd ((rd_T84 l0_2 x5_3).f0) 0)] (by rfl) rfl rfl (by (try simp only [List.map_toArray, List.map_cons, List.map_nil]); first | done | rfl | (simp only [List.length_drop, List.length_take]; rfl)) ?_
                   with_reducible refine (spec_l3Has.calls k4 _ _ ((rd_T84 l0_2 x6_4).f0) (rd ((rd_T84 l0_2 x5_3).f0) 0) true _ ?side1 ?side2 A49.out).mono ?_
                   (case side1 => exact gC (Kd.C_below HR254_0.out HB.out))
                   (case side2 => exact HC254_0.out)
                   rintro e w' ⟨rfl, ⟨nd, rfl⟩⟩
                   refine ⟨_, rfl, ?_⟩
                   refine hK.out _ _ ⟨cz_ BK245.out 0 rfl, cz_ BK245.out 1 rfl, cz_ BK245.out 2 rfl, ((HB.out.cell (World.block_lt_of_cell? w _ hw254_0)).trans hw254_0), ((HB.out.cell (World.block_lt_of_cell? w _ hw254_1)).trans hw254_1), ((HB.out.cell (World.block_lt_of_cell? w _ hw255_0)).trans hw255_0), ((HB.out.cell (World.block_lt_of_cell? w _ hw255_1)).trans hw255_1), ((HB.out.cell (World.block_lt_of_cell? w _ hw256_0)).trans hw256_0)⟩ (fun hHeld => ?_)
                   clear hK K
                   refine norm_ (a' := ?_) ?_ ?_
                   rotate_left
                   ·show Act.put _ (some 101) _ = _
                    simp only [Act.put, eA_, e0_, eS_, i64_w, i32_w]
                    rfl
                   refine pu_ 19 (some 102) (bv 20 1048575) rfl rfl (any_of HT_.out (by kernel_rfl)) (fun _ _ _ h => h) (by rfl) (fun w' => by go_simp; with_reducible rfl) (by simp only [Act.put, eA_, e0_, eS_, i64_w, i32_w]; rfl) ?_
                   refine done_ (done_of HT_.out (by kernel_rfl)) ?_
                   try go_wp2
                   go_ret
                   exact ⟨by first | rfl | (simp [errW_none, errW_some] <;> rfl) | (simp [*, errW_none, errW_some] <;> rfl), by repeat (first | (with_reducible first | exact HB.out | apply below_alloc | apply pw_below_drewN | apply below_drew1 | refine below_set ?_ GE245.out) | exact HB.out)⟩
                  ·replace c50 := Bool.eq_false_iff.mpr c50
                   subst c50
                   have H1 : (spec_SolverOk.l2 k4 x5_3 (wrap64 (x6_4 + 1)) a0_0 a0_1 l0_2) = some r := by rw [if_neg (show ¬ (false = true) by decide)] at H; exact H
                   clear H
                   have H := H1
                   clear H1
                   have H' := Aside0.mk H
                   clear H
                   have hcz53_0 := cz_ BK245.out 0 rfl
                   have hcz53_1 := cz_ BK245.out 1 rfl
                   have hcz53_2 := cz_ BK245.out 2 rfl
                   have hfz53_0 := blk_frozen BK245.out 0
                   have hfz53_1 := blk_frozen BK245.out 1
                   have hfz53_2 := blk_frozen BK245.out 2
                   try go_wp2
                   have n0_ := Aside0.mk (blk_drew BK245.out)
                   have n1_ := Aside0.mk (below_drew1 HB.out)
                   clear BK245
                   clear HB
                   have BK245 := n0_
                   have HB := n1_
                   clear n0_ n1_
                   have p254 : 0 ≤ (x6_4 : Int) := of_decide_eq_true (by first | (with_reducible assumption) | assumption)
                   have q254 : x6_4 < (l0_2.length : Int) := of_decide_eq_true (by first | (with_reducible assumption) | assumption)
                   obtain ⟨ad254, A254_0, c254_0, e254, hx254_0, hx254_1, hl254_0, hi254_0⟩ := at_T84 HR0_2.out x6_4 p254 q254
                   have hw254_1 := hx254_1
                   have hw254_0 := hx254_0
                   cases e254
                   replace hx254_0 := (HB.out.cell (World.block_lt_of_cell? w _ hx254_0)).trans hx254_0
                   replace hx254_1 := (HB.out.cell (World.block_lt_of_cell? w _ hx254_1)).trans hx254_1
                   have HR254_0 := Aside0.mk hi254_0
                   have HC254_0 := Aside0.mk hl254_0
                   clear hi254_0 hl254_0
                   replace p254 := eq_true p254
                   replace q254 := eq_true q254
                   have p255 : 0 ≤ (x5_3 : Int) := of_decide_eq_true (by first | (with_reducible assumption) | assumption)
                   have q255 : x5_3 < (l0_2.length : Int) := of_decide_eq_true (by first | (with_reducible assumption) | assumption)
                   obtain ⟨ad255, A255_0, c255_0, e255, hx255_0, hx255_1, hl255_0, hi255_0⟩ := at_T84 HR0_2.out x5_3 p255 q255
                   have hw255_1 := hx255_1
                   have hw255_0 := hx255_0
                   obtain rfl : ad254 = ad255 := (by injection e255)
                   replace hx255_0 := (HB.out.cell (World.block_lt_of_cell? w _ hx255_0)).trans hx255_0
                   replace hx255_1 := (HB.out.cell (World.block_lt_of_cell? w _ hx255_1)).trans hx255_1
                   have HR255_0 := Aside0.mk hi255_0
                   have HC255_0 := Aside0.mk hl255_0
                   clear hi255_0 hl255_0
                   replace p255 := eq_true p255
                   replace q255 := eq_true q255
                   have p256 : 0 ≤ (0 : Int) := (by omega)
                   have q256 : 0 < (((rd_T84 l0_2 x5_3).f0).length : Int) := of_decide_eq_true (by first | (with_reducible assumption) | assumption)
                   obtain ⟨ad256, e256, hx256_0⟩ := Kd.at_int HR255_0.out 0 p256 q256
                   have hw256_0 := hx256_0
                   (try rw [show ((0 : Int)).toNat = 0 from rfl] at hw256_0)
                   (try rw [show 0 * 1 = 0 from rfl] at hw256_0)
                   (try rw [Addr.add_zero'] at hw256_0)
                   cases e256
                   have qi256 : (0 < ((rd_T84 l0_2 x5_3).f0).length) = True := eq_true (by omega)
                   (try rw [show ((0 : Int)).toNat = 0 from rfl] at hx256_0)
                   (try rw [Addr.add_zero'] at hx256_0)
                   replace hx256_0 := (HB.out.cell (World.block_lt_of_cell? w _ hx256_0)).trans hx256_0
                   replace p256 := eq_true p256
                   replace q256 := eq_true q256
                   refine start_ (n := 20) (S := fun w' => w'.cell? ⟨gb245, 0, none⟩ = some (.int .i64 a0_0) ∧ w'.cell? ⟨gb245, 1, none⟩ = some (.int .i64 a0_1) ∧ w'.cell? ⟨gb245, 2, none⟩ = some (.slice (some ad254) l0_2.length c0_2) ∧ w'.cell? (ad254.add ((x6_4).toNat * 2)) = some (.slice A254_0 ((rd_T84 l0_2 x6_4).f0).length c254_0) ∧ w'.cell? ⟨(ad254.add ((x6_4).toNat * 2)).block, (ad254.add ((x6_4).toNat * 2)).off + 1, none⟩ = some (.string ((rd_T84 l0_2 x6_4).f1)) ∧ w'.cell? (ad254.add ((x5_3).toNat * 2)) = some (.slice (some ad256) ((rd_T84 l0_2 x5_3).f0).length c255_0) ∧ w'.cell? ⟨(ad254.add ((x5_3).toNat * 2)).block, (ad254.add ((x5_3).toNat * 2)).off + 1, none⟩ = some (.string ((rd_T84 l0_2 x5_3).f1)) ∧ w'.cell? ad256 = some (.int .i64 (rd ((rd_T84 l0_2 x5_3).f0) 0))) (ds := []) (.replicate 20 false) (by kernel_rfl) rfl rfl ⟨cz_ BK245.out 0 rfl, cz_ BK245.out 1 rfl, cz_ BK245.out 2 rfl, ((HB.out.cell (World.block_lt_of_cell? w _ hw254_0)).trans hw254_0), ((HB.out.cell (World.block_lt_of_cell? w _ hw254_1)).trans hw254_1), ((HB.out.cell (World.block_lt_of_cell? w _ hw255_0)).trans hw255_0), ((HB.out.cell (World.block_lt_of_cell? w _ hw255_1)).trans hw255_1), ((HB.out.cell (World.block_lt_of_cell? w _ hw256_0)).trans hw256_0)⟩ (fun hHeld => ?_); refine with_tabW spec_SolverOk.tab15 spec_SolverOk.bits15 (fun HT_ HW_ => ?_)
                   generalize wr.drew = w54 at BK245 HB HR254_0 HR255_0 hx254_0 hx254_1 hx255_0 hx255_1 hx256_0 hHeld ⊢
                   refine pu_ 0 (some 83) (bv 20 1) rfl rfl (any_of HT_.out (by kernel_rfl)) (fun _ _ _ h => h) (by rfl) (fun w' => by go_simp; with_reducible rfl) (by simp only [Act.put, eA_, e0_, eS_, i64_w, i32_w]; rfl) ?_
                   refine pu_ 1 (some 84) (bv 20 3) rfl rfl (any_of HT_.out (by kernel_rfl)) (fun _ _ _ h => h) (by rfl) (fun w' => by go_simp; with_reducible rfl) (by simp only [Act.put, eA_, e0_, eS_, i64_w, i32_w]; rfl) ?_
                   refine pu_ 2 (some 85) (bv 20 7) rfl rfl (any_of HT_.out (by kernel_rfl)) (fun _ _ _ h => h) (by rfl) (fun w' => by go_simp; with_reducible rfl) (by simp only [Act.put, eA_, e0_, eS_, i64_w, i32_w]; rfl) ?_
                   refine pu_ 3 (some 86) (bv 20 15) rfl rfl (any_of HT_.out (by kernel_rfl)) (fun _ _ _ h => h) (by rfl) (fun w' => by go_simp; with_reducible rfl) (by simp only [Act.put, eA_, e0_, eS_, i64_w, i32_w]; rfl) ?_
                   refine pu_ 4 (some 87) (bv 20 31) rfl rfl (any_of HT_.out (by kernel_rfl)) (fun _ _ _ h => h) (by rfl) (fun w' => by go_simp; with_reducible rfl) (by simp only [Act.put, eA_, e0_, eS_, i64_w, i32_w]; rfl) ?_
                   refine pu_ 6 (some 89) (bv 20 95) rfl rfl (any_of HT_.out (by kernel_rfl)) (fun _ _ _ h => h) (by rfl) (fun w' => by go_simp; with_reducible rfl) (by simp only [Act.put, eA_, e0_, eS_, i64_w, i32_w]; rfl) ?_
                   refine pu_ 10 (some 93) (bv 20 1119) rfl rfl (any_of HT_.out (by kernel_rfl)) (fun _ _ _ h => h) (by rfl) (fun w' => by go_simp; with_reducible rfl) (by simp only [Act.put, eA_, e0_, eS_, i64_w, i32_w]; rfl) ?_
                   refine pu_ 12 (some 95) (bv 20 5215) rfl rfl (any_of HT_.out (by kernel_rfl)) (fun _ _ _ h => h) (by rfl) (fun w' => by go_simp; with_reducible rfl) (by simp only [Act.put, eA_, e0_, eS_, i64_w, i32_w]; rfl) ?_
                   refine tk_ 5 (some 88) (bv 20 5247) rfl rfl (take_ofW HT_.out HW_.out (by kernel_rfl)) (fun _ _ _ h => h) (by rfl) hHeld (fun w' ⟨s0, s1, s2, s3, s4, s5, s6, s7⟩ => by go_simp; with_reducible rfl) (by simp only [Act.put, eA_, e0_, eS_, i64_w, i32_w]; rfl) ?_
                   refine pu_ 7 (some 90) (bv 20 5375) rfl rfl (any_of HT_.out (by kernel_rfl)) (fun _ _ _ h => h) (by rfl) (fun w' => by go_simp; with_reducible rfl) (by simp only [Act.put, eA_, e0_, eS_, i64_w, i32_w]; rfl) ?_
                   refine pu_ 8 (some 91) (bv 20 5631) rfl rfl (any_of HT_.out (by kernel_rfl)) (fun _ _ _ h => h) (by rfl) (fun w' => by go_simp; with_reducible rfl) (by simp only [Act.put, eA_, e0_, eS_, i64_w, i32_w]; rfl) ?_
                   refine tk_ 9 (some 92) (bv 20 6143) rfl rfl (take_ofW HT_.out HW_.out (by kernel_rfl)) (fun _ _ _ h => h) (by rfl) hHeld (fun w' ⟨s0, s1, s2, s3, s4, s5, s6, s7⟩ => by go_simp; with_reducible rfl) (by simp only [Act.put, eA_, e0_, eS_, i64_w, i32_w]; rfl) ?_
                   refine tk_ 11 (some 94) (bv 20 8191) rfl rfl (take_ofW HT_.out HW_.out (by kernel_rfl)) (fun _ _ _ h => h) (by rfl) hHeld (fun w' ⟨s0, s1, s2, s3, s4, s5, s6, s7⟩ => by go_simp; with_reducible rfl) (by simp only [Act.put, eA_, e0_, eS_, i64_w, i32_w]; rfl) ?_
                   refine pu_ 13 (some 96) (bv 20 16383) rfl rfl (any_of HT_.out (by kernel_rfl)) (fun _ _ _ h => h) (by rfl) (fun w' => by go_simp; with_reducible rfl) (by simp only [Act.put, eA_, e0_, eS_, i64_w, i32_w]; rfl) ?_
                   refine pu_ 14 (some 97) (bv 20 32767) rfl rfl (any_of HT_.out (by kernel_rfl)) (fun _ _ _ h => h) (by rfl) (fun w' => by go_simp; with_reducible rfl) (by simp only [Act.put, eA_, e0_, eS_, i64_w, i32_w]; rfl) ?_
                   refine tk_ 15 (some 98) (bv 20 65535) rfl rfl (take_ofW HT_.out HW_.out (by kernel_rfl)) (fun _ _ _ h => h) (by rfl) hHeld (fun w' ⟨s0, s1, s2, s3, s4, s5, s6, s7⟩ => by go_simp; with_reducible rfl) (by simp only [Act.put, eA_, e0_, eS_, i64_w, i32_w]; rfl) ?_
                   refine pu_ 16 (some 99) (bv 20 131071) rfl rfl (any_of HT_.out (by kernel_rfl)) (fun _ _ _ h => h) (by rfl) (fun w' => by go_simp; with_reducible rfl) (by simp only [Act.put, eA_, e0_, eS_, i64_w, i32_w]; rfl) ?_
                   refine tk_ 17 (some 100) (bv 20 262143) rfl rfl (take_ofW HT_.out HW_.out (by kernel_rfl)) (fun _ _ _ h => h) (by rfl) hHeld (fun w' ⟨s0, s1, s2, s3, s4, s5, s6, s7⟩ => by go_simp; with_reducible rfl) (by simp only [Act.put, eA_, e0_, eS_, i64_w, i32_w]; rfl) ?_
                   refine one_ (i := 18) (N := some 101) (bv 20 524287) rfl rfl (one_of HT_.out (by kernel_rfl)) (by decide) (fun K hK => ?_)
                   refine goes_ Try.func69 (by kernel_rfl) rfl #[.slice A254_0 ((rd_T84 l0_2 x6_4).f0).length c254_0, .int .i64 (rd ((rd_T84 l0_2 x5_3).f0) 0)] (by rfl) rfl rfl (by (try simp only [List.map_toArray, List.map_cons, List.map_nil]); first | done | rfl | (simp only [List.length_drop, List.length_take]; rfl)) ?_
                   with_reducible refine (spec_l3Has.calls k4 _ _ ((rd_T84 l0_2 x6_4).f0) (rd ((rd_T84 l0_2 x5_3).f0) 0) false _ ?side1 ?side2 A49.out).mono ?_
                   (case side1 => exact gC (Kd.C_below HR254_0.out HB.out))
                   (case side2 => exact HC254_0.out)
                   rintro e w' ⟨rfl, ⟨nd, rfl⟩⟩
                   refine ⟨_, rfl, ?_⟩
                   refine hK.out _ _ ⟨cz_ BK245.out 0 rfl, cz_ BK245.out 1 rfl, cz_ BK245.out 2 rfl, ((HB.out.cell (World.block_lt_of_cell? w _ hw254_0)).trans hw254_0), ((HB.out.cell (World.block_lt_of_cell? w _ hw254_1)).trans hw254_1), ((HB.out.cell (World.block_lt_of_cell? w _ hw255_0)).trans hw255_0), ((HB.out.cell (World.block_lt_of_cell? w _ hw255_1)).trans hw255_1), ((HB.out.cell (World.block_lt_of_cell? w _ hw256_0)).trans hw256_0)⟩ (fun hHeld => ?_)
                   clear hK K
                   refine norm_ (a' := ?_) ?_ ?_
                   rotate_left
                   ·show Act.put _ (some 101) _ = _
                    simp only [Act.put, eA_, e0_, eS_, i64_w, i32_w]
                    rfl
                   refine pu_ 19 (some 102) (bv 20 1048575) rfl rfl (any_of HT_.out (by kernel_rfl)) (fun _ _ _ h => h) (by rfl) (fun w' => by go_simp; with_reducible rfl) (by simp only [Act.put, eA_, e0_, eS_, i64_w, i32_w]; rfl) ?_
                   refine done_ (done_of HT_.out (by kernel_rfl)) ?_
                   try go_wp2
                   go_roundg k4
                   case measure => have := HJ1.out; have := HK2.out; have := HK3.out; have := HK4.out; omega
                   case rel => exact ⟨(wrap64 (x6_4 + 1)), (by first | rfl | (simp; done) | (simp [*]; done) | (simp [wrap64]; done)), H', ⟨by have := HJ1.out; have := HK2.out; have := HK3.out; have := HK4.out; omega⟩, ⟨by (with_reducible repeat (first | refine blk_drewN ?_ _ | refine blk_drew ?_ | refine blk_alloc ?_ _)); exact BK245.out⟩, ⟨by repeat (first | (with_reducible first | exact HB.out | apply below_alloc | apply pw_below_drewN | apply below_drew1 | refine below_set ?_ GE245.out) | exact HB.out)⟩⟩
                 ·rw [if_neg c48] at H
                  exact absurd H (by simp)
                ·rw [if_neg c47] at H
                 exact absurd H (by simp)
               ·rw [if_neg c46] at H
                exact absurd H (by simp)
              ·rw [if_neg c45] at H
               exact absurd H (by simp)
            ·rw [if_neg c41] at H
             have c41b0 : decide (x6_4 < (l0_2.length : Int)) = false := decide_eq_false c41
             clear c41
             have H' := Aside0.mk H
             clear H
             have hcz55_0 := cz_ BK245.out 0 rfl
             have hcz55_1 := cz_ BK245.out 1 rfl
             have hcz55_2 := cz_ BK245.out 2 rfl
             have hfz55_0 := blk_frozen BK245.out 0
             have hfz55_1 := blk_frozen BK245.out 1
             have hfz55_2 := blk_frozen BK245.out 2
             go_wp2
             go_roundg k4
             case measure => have := HJ1.out; have := HK2.out; have := HK3.out; have := HK4.out; omega
             case rel => exact ⟨(wrap64 (x5_3 + 1)), (by first | rfl | (simp; done) | (simp [*]; done) | (simp [wrap64]; done)), H', ⟨by have := HJ1.out; have := HK2.out; have := HK3.out; have := HK4.out; omega⟩, ⟨by (with_reducible repeat (first | refine blk_drewN ?_ _ | refine blk_drew ?_ | refine blk_alloc ?_ _)); exact BK245.out⟩, ⟨by repeat (first | (with_reducible first | exact HB.out | apply below_alloc | apply pw_below_drewN | apply below_drew1 | refine below_set ?_ GE245.out) | exact HB.out)⟩⟩
         ·rw [if_neg c39] at H
          have c39b0 : decide (x5_3 < (l0_2.length : Int)) = false := decide_eq_false c39
          clear c39
          obtain rfl := Option.some.inj H
          have hcz56_0 := cz_ BK245.out 0 rfl
          have hcz56_1 := cz_ BK245.out 1 rfl
          have hcz56_2 := cz_ BK245.out 2 rfl
          have hfz56_0 := blk_frozen BK245.out 0
          have hfz56_1 := blk_frozen BK245.out 1
          have hfz56_2 := blk_frozen BK245.out 2
          go_wp2
          go_ret
          exact ⟨by first | rfl | (simp [errW_none, errW_some] <;> rfl) | (simp [*, errW_none, errW_some] <;> rfl), by repeat (first | (with_reducible first | exact HB.out | apply below_alloc | apply pw_below_drewN | apply below_drew1 | refine below_set ?_ GE245.out) | exact HB.out)⟩

end Go.Proofs.Ytaeeickboakmgaa.X
