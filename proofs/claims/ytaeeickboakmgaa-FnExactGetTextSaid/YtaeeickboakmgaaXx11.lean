/- Printed for this claim by the session's program (the kit's printer, several laws in one place): the functions that the law reaches, each as a plain Lean function, and the proof that the Go code comes to its answers. Conditions: none beside those that each theorem states. -/
import Derived.Test.YtaeeickboakmgaaXx0
import Derived.Test.YtaeeickboakmgaaXx4
import Derived.Test.YtaeeickboakmgaaXx5
import Derived.Test.YtaeeickboakmgaaWAll
namespace Go.Proofs.Ytaeeickboakmgaa.X
open Go.RowKit Go.Proofs.YtaeeickboakmgaaW.PrintWords Go.Proofs.YtaeeickboakmgaaW.PrintLast Go.Proofs.YtaeeickboakmgaaW.PrintStep Go.Proofs.YtaeeickboakmgaaW.PrintMore
attribute [local go_sem] max2_int min2_int max_two min_two max_three min_three max_four min_four   -- for this text's walks alone
set_option linter.unusedVariables false
set_option linter.unusedSimpArgs false

/-! ### impl_SolverOk: function 25 -/
mutual
def impl_SolverOk.j0 : Nat → Bool → Int → Int → List (S84) → Option (Bool)
 | 0, _, _, _, _ => none
 | k + 1, x17, x285000, x285001, x285002 => if x17 = true then (some false) else (impl_SolverOk.l0 k 0 x285002 (x285002.length : Int) 0 x285000 x285001 x285002)
def impl_SolverOk.l0 : Nat → Int → List (S84) → Int → Int → Int → Int → List (S84) → Option (Bool)
 | 0, _, _, _, _, _, _, _ => none
 | k + 1, x3, x19, x20, x21, x285000, x285001, x285002 => if x21 < x20 then (if 0 ≤ x21 then (if x21 < (x19.length : Int) then (if (((rd_T84 x19 x21).f0).length : Int) = 0 then (impl_SolverOk.j2 k x3 x19 x20 x21 true x285000 x285001 x285002 ((rd_T84 x19 x21).f0) ((rd_T84 x19 x21).f1)) else ((impl_RowOk.f k ((rd_T84 x19 x21).f0) x285000).bind fun t289 => (if t289 = true then (if (((rd_T84 x19 x21).f1).size : Int) = x285001 then (if x21 > 0 then (if 0 ≤ (wrap64 (x21 - 1)) then (if (wrap64 (x21 - 1)) < (x285002.length : Int) then (if 0 < (((rd_T84 x285002 (wrap64 (x21 - 1))).f0).length : Int) then (if 0 < (((rd_T84 x19 x21).f0).length : Int) then (impl_SolverOk.j2 k x3 x19 x20 x21 (decide ((rd ((rd_T84 x285002 (wrap64 (x21 - 1))).f0) 0) ≥ (rd ((rd_T84 x19 x21).f0) 0))) x285000 x285001 x285002 ((rd_T84 x19 x21).f0) ((rd_T84 x19 x21).f1)) else (none)) else (none)) else (none)) else (none)) else (impl_SolverOk.j2 k x3 x19 x20 x21 false x285000 x285001 x285002 ((rd_T84 x19 x21).f0) ((rd_T84 x19 x21).f1))) else (impl_SolverOk.j2 k x3 x19 x20 x21 true x285000 x285001 x285002 ((rd_T84 x19 x21).f0) ((rd_T84 x19 x21).f1))) else (impl_SolverOk.j2 k x3 x19 x20 x21 true x285000 x285001 x285002 ((rd_T84 x19 x21).f0) ((rd_T84 x19 x21).f1))))) else (none)) else (none)) else (impl_SolverOk.l1 k x3 x285002 (x285002.length : Int) 0)
def impl_SolverOk.j2 : Nat → Int → List (S84) → Int → Int → Bool → Int → Int → List (S84) → List Int → ByteArray → Option (Bool)
 | 0, _, _, _, _, _, _, _, _, _, _ => none
 | k + 1, x3, x19, x20, x21, x65, x285000, x285001, x285002, x289000, x289001 => if x65 = true then (some false) else (if 0 < (x289000.length : Int) then (if 0 ≤ (rd x289000 0) then (impl_SolverOk.l0 k (Go.bits .or .u32 x3 (shl .u32 1 (rd x289000 0))) x19 x20 (wrap64 (x21 + 1)) x285000 x285001 x285002) else (none)) else (none))
def impl_SolverOk.l1 : Nat → Int → List (S84) → Int → Int → Option (Bool)
 | 0, _, _, _, _ => none
 | k + 1, x3, x75, x76, x77 => if x77 < x76 then (if 0 ≤ x77 then (if x77 < (x75.length : Int) then (if 1 ≤ (((rd_T84 x75 x77).f0).length : Int) then ((impl_mask.f k (((rd_T84 x75 x77).f0).drop 1)).bind fun t297 => (if (Go.bits .and .u32 t297 x3) = 0 then (impl_SolverOk.l1 k x3 x75 x76 (wrap64 (x77 + 1))) else (some false))) else (none)) else (none)) else (none)) else (some true)
end
def impl_SolverOk.f (k : Nat) (a0_0 : Int) (a0_1 : Int) (l0_2 : List (S84)) : Option (Bool) := (impl_within.f a0_0 1 24).bind fun t285 => (if t285 = true then ((impl_within.f a0_1 1 16).bind fun t286 => (impl_SolverOk.j0 k (!t286) a0_0 a0_1 l0_2)) else (impl_SolverOk.j0 k true a0_0 a0_1 l0_2))
theorem impl_SolverOk.mono_l : ∀ k, (∀ y0 y1 y2 y3, LeO (impl_SolverOk.j0 k y0 y1 y2 y3) (impl_SolverOk.j0 (k + 1) y0 y1 y2 y3)) ∧ (∀ y0 y1 y2 y3 y4 y5 y6, LeO (impl_SolverOk.l0 k y0 y1 y2 y3 y4 y5 y6) (impl_SolverOk.l0 (k + 1) y0 y1 y2 y3 y4 y5 y6)) ∧ (∀ y0 y1 y2 y3 y4 y5 y6 y7 y8 y9, LeO (impl_SolverOk.j2 k y0 y1 y2 y3 y4 y5 y6 y7 y8 y9) (impl_SolverOk.j2 (k + 1) y0 y1 y2 y3 y4 y5 y6 y7 y8 y9)) ∧ (∀ y0 y1 y2 y3, LeO (impl_SolverOk.l1 k y0 y1 y2 y3) (impl_SolverOk.l1 (k + 1) y0 y1 y2 y3))
 | 0 => ⟨fun _ _ _ _ r h => by simp [impl_SolverOk.j0] at h, fun _ _ _ _ _ _ _ r h => by simp [impl_SolverOk.l0] at h, fun _ _ _ _ _ _ _ _ _ _ r h => by simp [impl_SolverOk.j2] at h, fun _ _ _ _ r h => by simp [impl_SolverOk.l1] at h⟩
 | k + 1 => by
  obtain ⟨ih0, ih1, ih2, ih3⟩ := impl_SolverOk.mono_l k
  refine ⟨?_, ?_, ?_, ?_⟩
  ·intro y0 y1 y2 y3
   unfold impl_SolverOk.j0
   repeat' first
   | (with_reducible exact ih0 _ _ _ _)
   | (with_reducible exact ih1 _ _ _ _ _ _ _)
   | (with_reducible exact ih2 _ _ _ _ _ _ _ _ _ _)
   | (with_reducible exact ih3 _ _ _ _)
   | (with_reducible exact impl_RowOk.mono _ _ _)
   | (with_reducible exact impl_mask.mono _ _)
   | (with_reducible exact LeO.refl _)
   | (with_reducible exact LeO.none _)
   | (with_reducible refine LeO.ite ?_ ?_)
   | (with_reducible refine LeO.bind ?_ (fun _ => ?_))
   | exact ih0 _ _ _ _
   | exact ih1 _ _ _ _ _ _ _
   | exact ih2 _ _ _ _ _ _ _ _ _ _
   | exact ih3 _ _ _ _
   | exact impl_RowOk.mono _ _ _
   | exact impl_mask.mono _ _
   | exact LeO.none _
   | refine LeO.ite ?_ ?_
   | refine LeO.bind ?_ (fun _ => ?_)
  ·intro y0 y1 y2 y3 y4 y5 y6
   unfold impl_SolverOk.l0
   repeat' first
   | (with_reducible exact ih0 _ _ _ _)
   | (with_reducible exact ih1 _ _ _ _ _ _ _)
   | (with_reducible exact ih2 _ _ _ _ _ _ _ _ _ _)
   | (with_reducible exact ih3 _ _ _ _)
   | (with_reducible exact impl_RowOk.mono _ _ _)
   | (with_reducible exact impl_mask.mono _ _)
   | (with_reducible exact LeO.refl _)
   | (with_reducible exact LeO.none _)
   | (with_reducible refine LeO.ite ?_ ?_)
   | (with_reducible refine LeO.bind ?_ (fun _ => ?_))
   | exact ih0 _ _ _ _
   | exact ih1 _ _ _ _ _ _ _
   | exact ih2 _ _ _ _ _ _ _ _ _ _
   | exact ih3 _ _ _ _
   | exact impl_RowOk.mono _ _ _
   | exact impl_mask.mono _ _
   | exact LeO.none _
   | refine LeO.ite ?_ ?_
   | refine LeO.bind ?_ (fun _ => ?_)
  ·intro y0 y1 y2 y3 y4 y5 y6 y7 y8 y9
   unfold impl_SolverOk.j2
   repeat' first
   | (with_reducible exact ih0 _ _ _ _)
   | (with_reducible exact ih1 _ _ _ _ _ _ _)
   | (with_reducible exact ih2 _ _ _ _ _ _ _ _ _ _)
   | (with_reducible exact ih3 _ _ _ _)
   | (with_reducible exact impl_RowOk.mono _ _ _)
   | (with_reducible exact impl_mask.mono _ _)
   | (with_reducible exact LeO.refl _)
   | (with_reducible exact LeO.none _)
   | (with_reducible refine LeO.ite ?_ ?_)
   | (with_reducible refine LeO.bind ?_ (fun _ => ?_))
   | exact ih0 _ _ _ _
   | exact ih1 _ _ _ _ _ _ _
   | exact ih2 _ _ _ _ _ _ _ _ _ _
   | exact ih3 _ _ _ _
   | exact impl_RowOk.mono _ _ _
   | exact impl_mask.mono _ _
   | exact LeO.none _
   | refine LeO.ite ?_ ?_
   | refine LeO.bind ?_ (fun _ => ?_)
  ·intro y0 y1 y2 y3
   unfold impl_SolverOk.l1
   repeat' first
   | (with_reducible exact ih0 _ _ _ _)
   | (with_reducible exact ih1 _ _ _ _ _ _ _)
   | (with_reducible exact ih2 _ _ _ _ _ _ _ _ _ _)
   | (with_reducible exact ih3 _ _ _ _)
   | (with_reducible exact impl_RowOk.mono _ _ _)
   | (with_reducible exact impl_mask.mono _ _)
   | (with_reducible exact LeO.refl _)
   | (with_reducible exact LeO.none _)
   | (with_reducible refine LeO.ite ?_ ?_)
   | (with_reducible refine LeO.bind ?_ (fun _ => ?_))
   | exact ih0 _ _ _ _
   | exact ih1 _ _ _ _ _ _ _
   | exact ih2 _ _ _ _ _ _ _ _ _ _
   | exact ih3 _ _ _ _
   | exact impl_RowOk.mono _ _ _
   | exact impl_mask.mono _ _
   | exact LeO.none _
   | refine LeO.ite ?_ ?_
   | refine LeO.bind ?_ (fun _ => ?_)
theorem impl_SolverOk.mono : ∀ a0 a1 a2 k, LeO (impl_SolverOk.f k a0 a1 a2) (impl_SolverOk.f (k + 1) a0 a1 a2) := by
 intro a0 a1 a2 k
 obtain ⟨ih0, ih1, ih2, ih3⟩ := impl_SolverOk.mono_l k
 unfold impl_SolverOk.f
 repeat' first
  | (with_reducible exact ih0 _ _ _ _)
  | (with_reducible exact ih1 _ _ _ _ _ _ _)
  | (with_reducible exact ih2 _ _ _ _ _ _ _ _ _ _)
  | (with_reducible exact ih3 _ _ _ _)
  | (with_reducible exact impl_RowOk.mono _ _ _)
  | (with_reducible exact impl_mask.mono _ _)
  | (with_reducible exact LeO.refl _)
  | (with_reducible exact LeO.none _)
  | (with_reducible refine LeO.ite ?_ ?_)
  | (with_reducible refine LeO.bind ?_ (fun _ => ?_))
  | exact ih0 _ _ _ _
  | exact ih1 _ _ _ _ _ _ _
  | exact ih2 _ _ _ _ _ _ _ _ _ _
  | exact ih3 _ _ _ _
  | exact impl_RowOk.mono _ _ _
  | exact impl_mask.mono _ _
  | exact LeO.none _
  | refine LeO.ite ?_ ?_
  | refine LeO.bind ?_ (fun _ => ?_)
def impl_SolverOk.T7 : Bool × List (List Nat × List Nat) := (true, [([], []), ([0], [0]), ([1], [1]), ([2], [2]), ([3], [3]), ([4], [4]), ([5, 4], [4, 5]), ([4], [4]), ([7, 4], [4, 7]), ([6, 8, 4, 4], [4, 6, 8]), ([9, 4], [4, 9]), ([4, 10], [4, 10]), ([11, 9], [11]), ([12], [12]), ([13, 12], [12, 13]), ([14, 12], [12, 14]), ([12], [12]), ([16, 12], [12, 16]), ([15, 17, 12], [12, 15, 17]), ([12, 18], [12, 18]), ([19, 12], [19]), ([20], [20]), ([21, 20], [20, 21]), ([22, 20, 20], [20, 22]), ([23], [23]), ([24, 23], [23, 24]), ([23], [23]), ([26, 23], [23, 26]), ([25, 27, 23], [23, 25, 27]), ([28, 23], [23, 28]), ([29, 23], [23, 29]), ([30, 23], [23, 30]), ([31, 23], [23, 31]), ([23], [23]), ([33, 23], [23, 33]), ([34, 23], [23, 34]), ([35, 23], [23, 35]), ([32, 36, 23], [23, 32, 36]), ([23, 37, 20], [20, 23, 37]), ([20, 38], [20, 38])])
def impl_SolverOk.B7 : List Nat := [0, 1, 3, 7, 15, 31, 63, 31, 159, 511, 1023, 2047, 4095, 8191, 16383, 32767, 8191, 73727, 262143, 524287, 1048575, 2097151, 4194303, 8388607, 16777215, 33554431, 16777215, 83886079, 268435455, 536870911, 1073741823, 2147483647, 4294967295, 16777215, 8606711807, 25786580991, 60146319359, 137438953471, 274877906943, 549755813887]
theorem impl_SolverOk.tab7 : rtab .any (opsOf Try.f25 7) = impl_SolverOk.T7 := by kernel_rfl
theorem impl_SolverOk.bits7 : waitsOk impl_SolverOk.T7.2 impl_SolverOk.B7 = true := by kernel_rfl
set_option maxHeartbeats 8000000 in
set_option maxRecDepth 100000 in
theorem impl_SolverOk.calls (k : Nat) (a0_0 : Int) (a0_1 : Int) (A0_2 : Option Addr) (c0_2 : Nat) (l0_2 : List (S84)) (r : Bool) (w : World) (hr0_2 : Kd.C k84 w A0_2 l0_2.length l0_2) (hc0_2 : l0_2.length ≤ c0_2) (h : impl_SolverOk.f k a0_0 a0_1 l0_2 = some r) :
 Calls Try.prog 25 #[.agg #[.int .i64 a0_0, .int .i64 a0_1, .slice A0_2 l0_2.length c0_2]] w fun e w' => e = .returned (.bool r) ∧ Below w.heap.size w w' := by
 have hu37 := Try.underlying37
 have hu84 := Try.underlying84
 have HR0_2 := Aside0.mk hr0_2
 have HC0_2 := Aside0.mk hc0_2
 clear hr0_2 hc0_2
 have HB := Aside0.mk (Below.refl w.heap.size w)
 have H : ((impl_within.f a0_0 1 24).bind fun t285 => (if t285 = true then ((impl_within.f a0_1 1 16).bind fun t286 => (impl_SolverOk.j0 k (!t286) a0_0 a0_1 l0_2)) else (impl_SolverOk.j0 k true a0_0 a0_1 l0_2))) = some r := h
 clear h
 have HC2 := Aside0.mk H
 clear H
 go_enter Try.func25, Try.ntmps25
 go_upto_region 1 with (first | ((with_reducible refine gate_dst (N := 1) rfl ?_); (try (refine gate_guard (by rfl) ?_; dsimp only)); refine box_event ?hg (N := 1) ?hd (cs := #[.int .i64 a0_0, .int .i64 a0_1, .slice A0_2 l0_2.length c0_2]) (t := 37) ?hr ?_; (case hd => rfl); (case hg => rfl); (case hr => first | (go_simp; done) | (go_simp; rfl)); intro gb284 hg w3 hbox hb; have n0_ := Aside0.mk (below_step (gB HB.out) hb); have n1_ := Aside0.mk (hbox); have n2_ := Aside0.mk ((by rw [hg]; exact (below_size (gB HB.out)) : w.heap.size ≤ gb284)); have n3_ := n2_; clear HB; have HB := n0_; have BK284 := n1_; have GW284 := n2_; have GE284 := n3_; clear n0_ n1_ n2_ n3_; clear hb hbox hg))
 (try simp only [Act.put, eA_, e0_, eS_])
 go_cut [17] (fun v17 wc => ∃ (kq : Nat) (x17_1 : Bool), v17 = .bool x17_1 ∧ Aside0 (impl_SolverOk.j0 kq x17_1 a0_0 a0_1 l0_2 = some r) ∧ Aside0 (kq ≤ k) ∧ Aside0 (wc.heap[gb284]? = some (.cells #[.int .i64 a0_0, .int .i64 a0_1, (.slice A0_2 l0_2.length c0_2)] 37 (0, 0))) ∧ Aside0 (Below w.heap.size w wc))
 case first =>
  have H := HC2.out
  clear HC2
  replace H := bI_ H
  obtain ⟨t285, A40, H⟩ := H
  replace H : (if t285 = true then ((impl_within.f a0_1 1 16).bind fun t286 => (impl_SolverOk.j0 k (!t286) a0_0 a0_1 l0_2)) else (impl_SolverOk.j0 k true a0_0 a0_1 l0_2)) = some r := H
  have A4 := Aside0.mk A40
  clear A40
  by_cases c5 : t285 = true
  ·subst c5
   have H1 : ((impl_within.f a0_1 1 16).bind fun t286 => (impl_SolverOk.j0 k (!t286) a0_0 a0_1 l0_2)) = some r := by rw [if_pos rfl] at H; exact H
   clear H
   have H := H1
   clear H1
   replace H := bI_ H
   obtain ⟨t286, A60, H⟩ := H
   replace H : (impl_SolverOk.j0 k (!t286) a0_0 a0_1 l0_2) = some r := H
   have A6 := Aside0.mk A60
   clear A60
   have H' := Aside0.mk H
   clear H
   have hcz7_0 := cz_ BK284.out 0 rfl
   have hcz7_1 := cz_ BK284.out 1 rfl
   have hcz7_2 := cz_ BK284.out 2 rfl
   have hfz7_0 := blk_frozen BK284.out 0
   have hfz7_1 := blk_frozen BK284.out 1
   have hfz7_2 := blk_frozen BK284.out 2
   go_wp2_with (first | ((with_reducible refine gate_callee (f := 66) rfl ?_); refine goesL_ (some 10) rfl rfl Try.func66 (by kernel_rfl) rfl #[.int .i64 a0_0, .int .i64 1, .int .i64 24] rfl (by (try simp only [List.map_toArray, List.map_cons, List.map_nil]); first | done | rfl | (simp only [List.length_drop, List.length_take]; rfl)) ?_; (with_reducible refine (impl_within.calls a0_0 1 24 true _ A4.out).mono ?_); rintro e w' ⟨rfl, ⟨nd, rfl⟩⟩; refine ⟨_, rfl, ?_⟩) | (go_at_call 66; (with_reducible refine (impl_within.calls a0_1 1 16 t286 _ A6.out).mono ?_); rintro e w' ⟨rfl, ⟨nd, rfl⟩⟩))
   go_meet
   case rel => exact ⟨_, (!t286), (by first | rfl | (simp; done) | (simp [*]; done) | (simp [wrap64]; done)), H', ⟨by first | omega | exact Nat.le_refl _⟩, ⟨by (with_reducible repeat (first | refine blk_drewN ?_ _ | refine blk_drew ?_ | refine blk_alloc ?_ _)); exact BK284.out⟩, ⟨by repeat (first | (with_reducible first | exact HB.out | apply below_alloc | apply pw_below_drewN | apply below_drew1 | refine below_set ?_ GE284.out) | exact HB.out)⟩⟩
  ·replace c5 := Bool.eq_false_iff.mpr c5
   subst c5
   have H1 : (impl_SolverOk.j0 k true a0_0 a0_1 l0_2) = some r := by rw [if_neg (show ¬ (false = true) by decide)] at H; exact H
   clear H
   have H := H1
   clear H1
   have H' := Aside0.mk H
   clear H
   have hcz8_0 := cz_ BK284.out 0 rfl
   have hcz8_1 := cz_ BK284.out 1 rfl
   have hcz8_2 := cz_ BK284.out 2 rfl
   have hfz8_0 := blk_frozen BK284.out 0
   have hfz8_1 := blk_frozen BK284.out 1
   have hfz8_2 := blk_frozen BK284.out 2
   go_wp2_with (first | ((with_reducible refine gate_callee (f := 66) rfl ?_); refine goesL_ (some 10) rfl rfl Try.func66 (by kernel_rfl) rfl #[.int .i64 a0_0, .int .i64 1, .int .i64 24] rfl (by (try simp only [List.map_toArray, List.map_cons, List.map_nil]); first | done | rfl | (simp only [List.length_drop, List.length_take]; rfl)) ?_; (with_reducible refine (impl_within.calls a0_0 1 24 false _ A4.out).mono ?_); rintro e w' ⟨rfl, ⟨nd, rfl⟩⟩; refine ⟨_, rfl, ?_⟩))
   go_meet
   case rel => exact ⟨_, (true), (by first | rfl | (simp; done) | (simp [*]; done) | (simp [wrap64]; done)), H', ⟨by first | omega | exact Nat.le_refl _⟩, ⟨by (with_reducible repeat (first | refine blk_drewN ?_ _ | refine blk_drew ?_ | refine blk_alloc ?_ _)); exact BK284.out⟩, ⟨by repeat (first | (with_reducible first | exact HB.out | apply below_alloc | apply pw_below_drewN | apply below_drew1 | refine below_set ?_ GE284.out) | exact HB.out)⟩⟩
 case rest =>
  clear HC2
  try clear c2
  try clear p2
  try clear c5
  try clear c6
  try clear hcz7_0
  try clear hcz7_1
  try clear hcz7_2
  try clear hcz8_0
  try clear hcz8_1
  try clear hcz8_2
  try clear hfz7_0
  try clear hfz7_1
  try clear hfz7_2
  try clear hfz8_0
  try clear hfz8_1
  try clear hfz8_2
  obtain ⟨kq, x17_1, rfl, HA, HJ1, BK284, HB⟩ := hcut
  cases kq with
  | zero => exact absurd HA.out (by simp [impl_SolverOk.j0])
  | succ kj1 =>
   have H := HA.out
   clear HA
   simp only [impl_SolverOk.j0] at H
   by_cases c9 : x17_1 = true
   ·subst c9
    have H1 : (some false) = some r := by rw [if_pos rfl] at H; exact H
    clear H
    have H := H1
    clear H1
    obtain rfl := Option.some.inj H
    go_wp2
    go_ret
    exact ⟨by first | rfl | (simp [errW_none, errW_some] <;> rfl) | (simp [*, errW_none, errW_some] <;> rfl), by repeat (first | (with_reducible first | exact HB.out | apply below_alloc | apply pw_below_drewN | apply below_drew1 | refine below_set ?_ GE284.out) | exact HB.out)⟩
   ·replace c9 := Bool.eq_false_iff.mpr c9
    subst c9
    have H1 : (impl_SolverOk.l0 kj1 0 l0_2 (l0_2.length : Int) 0 a0_0 a0_1 l0_2) = some r := by rw [if_neg (show ¬ (false = true) by decide)] at H; exact H
    clear H
    have H := H1
    clear H1
    have H' := Aside0.mk H
    clear H
    have hcz10_0 := cz_ BK284.out 0 rfl
    have hcz10_1 := cz_ BK284.out 1 rfl
    have hcz10_2 := cz_ BK284.out 2 rfl
    have hfz10_0 := blk_frozen BK284.out 0
    have hfz10_1 := blk_frozen BK284.out 1
    have hfz10_2 := blk_frozen BK284.out 2
    go_wp2
    go_loopg [3, 21] kj1 (fun kq v3 v21 w' => ∃ (x3_2 : Int) (x21_2 : Int), v3 = .int .u32 x3_2 ∧ v21 = .int .i64 x21_2 ∧ Aside0 (impl_SolverOk.l0 kq x3_2 l0_2 (l0_2.length : Int) x21_2 a0_0 a0_1 l0_2 = some r) ∧ Aside0 (kq ≤ kj1) ∧ Aside0 (w'.heap[gb284]? = some (.cells #[.int .i64 a0_0, .int .i64 a0_1, (.slice A0_2 l0_2.length c0_2)] 37 (0, 0))) ∧ Aside0 (Below w.heap.size w w'))
    case atStart => exact ⟨(0), (0), (by first | rfl | (simp; done) | (simp [*]; done) | (simp [wrap64]; done)), (by first | rfl | (simp; done) | (simp [*]; done) | (simp [wrap64]; done)), H', ⟨Nat.le_refl _⟩, ⟨by (with_reducible repeat (first | refine blk_drewN ?_ _ | refine blk_drew ?_ | refine blk_alloc ?_ _)); exact BK284.out⟩, ⟨by repeat (first | (with_reducible first | exact HB.out | apply below_alloc | apply pw_below_drewN | apply below_drew1 | refine below_set ?_ GE284.out) | exact HB.out)⟩⟩
    case round =>
     clear H'
     try clear c2
     try clear p2
     try clear c5
     try clear c6
     try clear c9
     try clear hcz10_0
     try clear hcz10_1
     try clear hcz10_2
     try clear hcz7_0
     try clear hcz7_1
     try clear hcz7_2
     try clear hcz8_0
     try clear hcz8_1
     try clear hcz8_2
     try clear hfz10_0
     try clear hfz10_1
     try clear hfz10_2
     try clear hfz7_0
     try clear hfz7_1
     try clear hfz7_2
     try clear hfz8_0
     try clear hfz8_1
     try clear hfz8_2
     try clear p2
     obtain ⟨x3_2, x21_2, rfl, rfl, HA, HK2, BK284, HB⟩ := hrel
     cases gk with
     | zero => exact absurd HA.out (by simp [impl_SolverOk.l0])
     | succ k2 =>
      have H := HA.out
      clear HA
      simp only [impl_SolverOk.l0] at H
      by_cases c11 : x21_2 < (l0_2.length : Int)
      ·rw [if_pos c11] at H
       have c11b0 : decide (x21_2 < (l0_2.length : Int)) = true := decide_eq_true c11
       clear c11
       by_cases c12 : 0 ≤ x21_2
       ·rw [if_pos c12] at H
        have c12b0 : decide (0 ≤ x21_2) = true := decide_eq_true c12
        clear c12
        by_cases c13 : x21_2 < (l0_2.length : Int)
        ·rw [if_pos c13] at H
         have c13b0 : decide (x21_2 < (l0_2.length : Int)) = true := decide_eq_true c13
         clear c13
         have HC14 := Aside0.mk H
         clear H
         have p287 : 0 ≤ (x21_2 : Int) := of_decide_eq_true (by first | (with_reducible assumption) | assumption)
         have q287 : x21_2 < (l0_2.length : Int) := of_decide_eq_true (by first | (with_reducible assumption) | assumption)
         obtain ⟨ad287, A287_0, c287_0, e287, hx287_0, hx287_1, hl287_0, hi287_0⟩ := at_T84 HR0_2.out x21_2 p287 q287
         cases e287
         replace hx287_0 := (HB.out.cell (World.block_lt_of_cell? w _ hx287_0)).trans hx287_0
         replace hx287_1 := (HB.out.cell (World.block_lt_of_cell? w _ hx287_1)).trans hx287_1
         have HR287_0 := Aside0.mk hi287_0
         have HC287_0 := Aside0.mk hl287_0
         clear hi287_0 hl287_0
         replace p287 := eq_true p287
         replace q287 := eq_true q287
         go_upto_region 7 with (first | ((with_reducible refine gate_dst (N := 5) rfl ?_); (try (refine gate_guard (by rfl) ?_; dsimp only)); refine box_event ?hg (N := 5) ?hd (cs := #[.slice none 0 0, .string (⟨#[]⟩ : ByteArray)]) (t := 84) ?hr ?_; (case hd => rfl); (case hg => rfl); (case hr => first | (go_simp; done) | (go_simp; rfl)); intro gb288 hg w15 hbox hb; have n0_ := Aside0.mk (blk_below (gK BK284.out) hb); have n1_ := Aside0.mk (below_step (gB HB.out) hb); have n2_ := Aside0.mk (hbox); have n3_ := Aside0.mk ((by rw [hg]; exact (below_size (gB HB.out)) : w.heap.size ≤ gb288)); have n4_ := n3_; have n5_ := Aside0.mk ((by rw [hg]; exact Nat.ne_of_lt (blk_lt (gK BK284.out)) : gb284 ≠ gb288)); have n6_ := Aside0.mk ((by rw [hg]; exact Nat.ne_of_gt (blk_lt (gK BK284.out)) : gb288 ≠ gb284)); clear BK284; clear HB; have BK284 := n0_; have HB := n1_; have BK288 := n2_; have GW288 := n3_; have GE288 := n4_; have NB284_288 := n5_; have NB288_284 := n6_; clear n0_ n1_ n2_ n3_ n4_ n5_ n6_; clear hb hbox hg; have hnb16 := NB288_284.out; have hnc16 := NB284_288.out; have hcz17_0 := cz_ BK288.out 0 rfl; have hcz17_1 := cz_ BK288.out 1 rfl; have hfz17_0 := blk_frozen BK288.out 0; have hfz17_1 := blk_frozen BK288.out 1))
         (try simp only [Act.put, eA_, e0_, eS_])
         go_cut [65] (fun v65 wc => ∃ (kq : Nat) (x65_13 : Bool), v65 = .bool x65_13 ∧ Aside0 (impl_SolverOk.j2 kq x3_2 l0_2 (l0_2.length : Int) x21_2 x65_13 a0_0 a0_1 l0_2 ((rd_T84 l0_2 x21_2).f0) ((rd_T84 l0_2 x21_2).f1) = some r) ∧ Aside0 (kq ≤ k2) ∧ Aside0 (wc.heap[gb284]? = some (.cells #[.int .i64 a0_0, .int .i64 a0_1, (.slice (some ad287) l0_2.length c0_2)] 37 (0, 0))) ∧ Aside0 (wc.heap[gb288]? = some (.cells #[(.slice A287_0 ((rd_T84 l0_2 x21_2).f0).length c287_0), .string ((rd_T84 l0_2 x21_2).f1)] 84 (0, 0))) ∧ Aside0 (Below w.heap.size w wc))
         case first =>
          have H := HC14.out
          clear HC14
          by_cases c18 : (((rd_T84 l0_2 x21_2).f0).length : Int) = 0
          ·rw [if_pos c18] at H
           have c18b0 : ((((rd_T84 l0_2 x21_2).f0).length : Int) == 0) = true := beq_iff_eq.mpr c18
           have c18b1 : ((((rd_T84 l0_2 x21_2).f0).length : Int) != 0) = false := bne_eq_false_iff_eq.mpr c18
           clear c18
           (first | rw [c18b0] | (simp only [i64_w, i32_w]; rw [c18b0]) | skip)
           have H' := Aside0.mk H
           clear H
           try go_wp2
           have n0_ : Aside0 (((w15.setCell ⟨gb288, 0, none⟩ (.slice A287_0 ((rd_T84 l0_2 x21_2).f0).length c287_0)).setCell ⟨gb288, 1, none⟩ (.string ((rd_T84 l0_2 x21_2).f1))).heap[gb284]? = some (.cells #[.int .i64 a0_0, .int .i64 a0_1, .slice (some ad287) l0_2.length c0_2] 37 (0, 0))) := ⟨by (with_reducible repeat (first | refine blk_drewN ?_ _ | refine blk_drew ?_ | refine blk_alloc ?_ _)); refine blk_far ?_ NB284_288.out _; (with_reducible repeat (first | refine blk_drewN ?_ _ | refine blk_drew ?_ | refine blk_alloc ?_ _)); refine blk_far ?_ NB284_288.out _; (with_reducible repeat (first | refine blk_drewN ?_ _ | refine blk_drew ?_ | refine blk_alloc ?_ _)); exact BK284.out⟩
           have n1_ : Aside0 (((w15.setCell ⟨gb288, 0, none⟩ (.slice A287_0 ((rd_T84 l0_2 x21_2).f0).length c287_0)).setCell ⟨gb288, 1, none⟩ (.string ((rd_T84 l0_2 x21_2).f1))).heap[gb288]? = some (.cells #[.slice A287_0 ((rd_T84 l0_2 x21_2).f0).length c287_0, .string ((rd_T84 l0_2 x21_2).f1)] 84 (0, 0))) := ⟨by (with_reducible repeat (first | refine blk_drewN ?_ _ | refine blk_drew ?_ | refine blk_alloc ?_ _)); refine blk_put (cs := #[.slice A287_0 ((rd_T84 l0_2 x21_2).f0).length c287_0, .string (⟨#[]⟩ : ByteArray)]) ?_ 1 _ rfl; (with_reducible repeat (first | refine blk_drewN ?_ _ | refine blk_drew ?_ | refine blk_alloc ?_ _)); refine blk_put (cs := #[.slice none 0 0, .string (⟨#[]⟩ : ByteArray)]) ?_ 0 _ rfl; (with_reducible repeat (first | refine blk_drewN ?_ _ | refine blk_drew ?_ | refine blk_alloc ?_ _)); exact BK288.out⟩
           have n2_ : Aside0 (Below w.heap.size w ((w15.setCell ⟨gb288, 0, none⟩ (.slice A287_0 ((rd_T84 l0_2 x21_2).f0).length c287_0)).setCell ⟨gb288, 1, none⟩ (.string ((rd_T84 l0_2 x21_2).f1)))) := ⟨by repeat (first | (with_reducible first | exact HB.out | apply below_alloc | apply pw_below_drewN | apply below_drew1 | refine below_set ?_ GE284.out | refine below_set ?_ GE288.out) | exact HB.out)⟩
           (try clear BK284)
           (try clear BK288)
           (try clear HB)
           generalize ((w15.setCell ⟨gb288, 0, none⟩ (.slice A287_0 ((rd_T84 l0_2 x21_2).f0).length c287_0)).setCell ⟨gb288, 1, none⟩ (.string ((rd_T84 l0_2 x21_2).f1))) = w19 at n0_ n1_ n2_ ⊢
           have BK284 := n0_
           have BK288 := n1_
           have HB := n2_
           clear n0_ n1_ n2_
           have n0_ := Aside0.mk (blk_drew BK284.out)
           have n1_ := Aside0.mk (blk_drew BK288.out)
           have n2_ := Aside0.mk (below_drew1 HB.out)
           clear BK284
           clear BK288
           clear HB
           have BK284 := n0_
           have BK288 := n1_
           have HB := n2_
           clear n0_ n1_ n2_
           refine start_ (n := 40) (S := fun w' => w'.cell? ⟨gb288, 0, none⟩ = some (.slice A287_0 ((rd_T84 l0_2 x21_2).f0).length c287_0) ∧ w'.cell? ⟨gb288, 1, none⟩ = some (.string ((rd_T84 l0_2 x21_2).f1))) (ds := []) (.replicate 40 false) (by kernel_rfl) rfl rfl ⟨cz_ BK288.out 0 rfl, cz_ BK288.out 1 rfl⟩ (fun hHeld => ?_); refine with_tabW impl_SolverOk.tab7 impl_SolverOk.bits7 (fun HT_ HW_ => ?_)
           generalize w19.drew = w20 at BK284 BK288 HB hHeld ⊢
           refine pu_ 0 (some 26) (bv 40 1) rfl rfl (any_of HT_.out (by kernel_rfl)) (fun _ _ _ h => h) (by rfl) (fun w' => by go_simp; with_reducible rfl) (by simp only [Act.put, eA_, e0_, eS_, i64_w, i32_w]; rfl) ?_
           refine tk_ 1 (some 27) (bv 40 3) rfl rfl (take_ofW HT_.out HW_.out (by kernel_rfl)) (fun _ _ _ h => h) (by rfl) hHeld (fun w' ⟨s0, s1⟩ => by go_simp; with_reducible rfl) (by simp only [Act.put, eA_, e0_, eS_, i64_w, i32_w]; rfl) ?_
           refine pu_ 2 (some 28) (bv 40 7) rfl rfl (any_of HT_.out (by kernel_rfl)) (fun _ _ _ h => h) (by rfl) (fun w' => by go_simp; with_reducible rfl) (by simp only [Act.put, eA_, e0_, eS_, i64_w, i32_w]; rfl) ?_
           refine pu_ 3 (some 29) (bv 40 15) rfl rfl (any_of HT_.out (by kernel_rfl)) (fun _ _ _ h => h) (by rfl) (fun w' => by go_simp; with_reducible rfl) (by simp only [Act.put, eA_, e0_, eS_, i64_w, i32_w]; rfl) ?_
           refine pu_ 4 (some 30) (bv 40 31) rfl rfl (any_of HT_.out (by kernel_rfl)) (fun _ _ _ h => h) (by rfl) (fun w' => by go_simp; with_reducible rfl) (by simp only [Act.put, eA_, e0_, eS_, i64_w, i32_w]; rfl) ?_
           refine sk_ 6 [5, 6, 7, 8, 9, 10] [31, 32, 33, 34, 35, 36] (bv 40 2047) rfl (skB_of HT_.out (by kernel_rfl)) (by kernel_rfl) (fun _ _ _ _ _ h => h) (by simp only [putU, Act.put, eA_, e0_, eS_]; rfl) ?_
           refine pu_ 11 (some 37) (bv 40 4095) rfl rfl (any_of HT_.out (by kernel_rfl)) (fun _ _ _ h => h) (by rfl) (fun w' => by go_simp; with_reducible rfl) (by simp only [Act.put, eA_, e0_, eS_, i64_w, i32_w]; rfl) ?_
           refine pu_ 12 (some 38) (bv 40 8191) rfl rfl (any_of HT_.out (by kernel_rfl)) (fun _ _ _ h => h) (by rfl) (fun w' => by go_simp; with_reducible rfl) (by simp only [Act.put, eA_, e0_, eS_, i64_w, i32_w]; rfl) ?_
           refine sk_ 6 [13, 14, 15, 16, 17, 18] [39, 40, 41, 42, 43, 44] (bv 40 524287) rfl (skB_of HT_.out (by kernel_rfl)) (by kernel_rfl) (fun _ _ _ _ _ h => h) (by simp only [putU, Act.put, eA_, e0_, eS_]; rfl) ?_
           refine pu_ 19 (some 45) (bv 40 1048575) rfl rfl (any_of HT_.out (by kernel_rfl)) (fun _ _ _ h => h) (by rfl) (fun w' => by go_simp; with_reducible rfl) (by simp only [Act.put, eA_, e0_, eS_, i64_w, i32_w]; rfl) ?_
           refine pu_ 20 (some 46) (bv 40 2097151) rfl rfl (any_of HT_.out (by kernel_rfl)) (fun _ _ _ h => h) (by rfl) (fun w' => by go_simp; with_reducible rfl) (by simp only [Act.put, eA_, e0_, eS_, i64_w, i32_w]; rfl) ?_
           refine sk_ 18 [21, 22, 23, 24, 25, 26, 27, 28, 29, 30, 31, 32, 33, 34, 35, 36, 37, 38] [47, 48, 49, 50, 51, 52, 53, 54, 55, 56, 57, 58, 59, 60, 61, 62, 63, 64] (bv 40 549755813887) rfl (skB_of HT_.out (by kernel_rfl)) (by kernel_rfl) (fun _ _ _ _ _ h => h) (by simp only [putU, Act.put, eA_, e0_, eS_]; rfl) ?_
           refine pu_ 39 (some 65) (bv 40 1099511627775) rfl rfl (any_of HT_.out (by kernel_rfl)) (fun _ _ _ h => h) (by rfl) (fun w' => by go_simp; with_reducible rfl) (by simp only [Act.put, eA_, e0_, eS_, i64_w, i32_w]; rfl) ?_
           refine done_ (done_of HT_.out (by kernel_rfl)) ?_
           try go_wp2
           go_meet
           case rel => exact ⟨_, (true), (by first | rfl | (simp; done) | (simp [*]; done) | (simp [wrap64]; done)), H', ⟨by have := HJ1.out; have := HK2.out; first | omega | exact Nat.le_refl _⟩, ⟨by (with_reducible repeat (first | refine blk_drewN ?_ _ | refine blk_drew ?_ | refine blk_alloc ?_ _)); exact BK284.out⟩, ⟨by (with_reducible repeat (first | refine blk_drewN ?_ _ | refine blk_drew ?_ | refine blk_alloc ?_ _)); exact BK288.out⟩, ⟨by repeat (first | (with_reducible first | exact HB.out | apply below_alloc | apply pw_below_drewN | apply below_drew1 | refine below_set ?_ GE284.out | refine below_set ?_ GE288.out) | exact HB.out)⟩⟩
          ·rw [if_neg c18] at H
           have c18b0 : ((((rd_T84 l0_2 x21_2).f0).length : Int) == 0) = false := beq_eq_false_iff_ne.mpr c18
           have c18b1 : ((((rd_T84 l0_2 x21_2).f0).length : Int) != 0) = true := bne_iff_ne.mpr c18
           have c18b2 : ¬ (((rd_T84 l0_2 x21_2).f0) = []) := fun h_ => c18 (by rw [h_]; rfl)
           (first | rw [c18b0] | (simp only [i64_w, i32_w]; rw [c18b0]) | skip)
           replace H := bI_ H
           obtain ⟨t289, A210, H⟩ := H
           replace H : (if t289 = true then (if (((rd_T84 l0_2 x21_2).f1).size : Int) = a0_1 then (if x21_2 > 0 then (if 0 ≤ (wrap64 (x21_2 - 1)) then (if (wrap64 (x21_2 - 1)) < (l0_2.length : Int) then (if 0 < (((rd_T84 l0_2 (wrap64 (x21_2 - 1))).f0).length : Int) then (if 0 < (((rd_T84 l0_2 x21_2).f0).length : Int) then (impl_SolverOk.j2 k2 x3_2 l0_2 (l0_2.length : Int) x21_2 (decide ((rd ((rd_T84 l0_2 (wrap64 (x21_2 - 1))).f0) 0) ≥ (rd ((rd_T84 l0_2 x21_2).f0) 0))) a0_0 a0_1 l0_2 ((rd_T84 l0_2 x21_2).f0) ((rd_T84 l0_2 x21_2).f1)) else (none)) else (none)) else (none)) else (none)) else (impl_SolverOk.j2 k2 x3_2 l0_2 (l0_2.length : Int) x21_2 false a0_0 a0_1 l0_2 ((rd_T84 l0_2 x21_2).f0) ((rd_T84 l0_2 x21_2).f1))) else (impl_SolverOk.j2 k2 x3_2 l0_2 (l0_2.length : Int) x21_2 true a0_0 a0_1 l0_2 ((rd_T84 l0_2 x21_2).f0) ((rd_T84 l0_2 x21_2).f1))) else (impl_SolverOk.j2 k2 x3_2 l0_2 (l0_2.length : Int) x21_2 true a0_0 a0_1 l0_2 ((rd_T84 l0_2 x21_2).f0) ((rd_T84 l0_2 x21_2).f1))) = some r := H
           have A21 := Aside0.mk A210
           clear A210
           by_cases c22 : t289 = true
           ·subst c22
            have H1 : (if (((rd_T84 l0_2 x21_2).f1).size : Int) = a0_1 then (if x21_2 > 0 then (if 0 ≤ (wrap64 (x21_2 - 1)) then (if (wrap64 (x21_2 - 1)) < (l0_2.length : Int) then (if 0 < (((rd_T84 l0_2 (wrap64 (x21_2 - 1))).f0).length : Int) then (if 0 < (((rd_T84 l0_2 x21_2).f0).length : Int) then (impl_SolverOk.j2 k2 x3_2 l0_2 (l0_2.length : Int) x21_2 (decide ((rd ((rd_T84 l0_2 (wrap64 (x21_2 - 1))).f0) 0) ≥ (rd ((rd_T84 l0_2 x21_2).f0) 0))) a0_0 a0_1 l0_2 ((rd_T84 l0_2 x21_2).f0) ((rd_T84 l0_2 x21_2).f1)) else (none)) else (none)) else (none)) else (none)) else (impl_SolverOk.j2 k2 x3_2 l0_2 (l0_2.length : Int) x21_2 false a0_0 a0_1 l0_2 ((rd_T84 l0_2 x21_2).f0) ((rd_T84 l0_2 x21_2).f1))) else (impl_SolverOk.j2 k2 x3_2 l0_2 (l0_2.length : Int) x21_2 true a0_0 a0_1 l0_2 ((rd_T84 l0_2 x21_2).f0) ((rd_T84 l0_2 x21_2).f1))) = some r := by rw [if_pos rfl] at H; exact H
            clear H
            have H := H1
            clear H1
            by_cases c23 : (((rd_T84 l0_2 x21_2).f1).size : Int) = a0_1
            ·rw [if_pos c23] at H
             have c23b0 : ((((rd_T84 l0_2 x21_2).f1).size : Int) == a0_1) = true := beq_iff_eq.mpr c23
             have c23b1 : ((((rd_T84 l0_2 x21_2).f1).size : Int) != a0_1) = false := bne_eq_false_iff_eq.mpr c23
             clear c23
             by_cases c24 : x21_2 > 0
             ·rw [if_pos c24] at H
              have c24b0 : decide (0 < x21_2) = true := decide_eq_true c24
              clear c24
              obtain ⟨ji25, hji25⟩ : ∃ j_ : Int, (wrap64 (x21_2 - 1)) = j_ := ⟨_, rfl⟩
              replace H : (if 0 ≤ (ji25) then (if (ji25) < (l0_2.length : Int) then (if 0 < (((rd_T84 l0_2 (ji25)).f0).length : Int) then (if 0 < (((rd_T84 l0_2 x21_2).f0).length : Int) then (impl_SolverOk.j2 k2 x3_2 l0_2 (l0_2.length : Int) x21_2 (decide ((rd ((rd_T84 l0_2 (ji25)).f0) 0) ≥ (rd ((rd_T84 l0_2 x21_2).f0) 0))) a0_0 a0_1 l0_2 ((rd_T84 l0_2 x21_2).f0) ((rd_T84 l0_2 x21_2).f1)) else (none)) else (none)) else (none)) else (none)) = some r := by first | (rw [hji25] at H; exact H) | (simp only [hji25] at H ⊢; exact H)
              (try rw [hji25] at A21)
              have hji25w : (IntKind.i64.wrap (x21_2 - 1)) = ji25 := (i64_w _).trans hji25
              by_cases c26 : 0 ≤ (ji25)
              ·rw [if_pos c26] at H
               have c26b0 : decide (0 ≤ (ji25)) = true := decide_eq_true c26
               clear c26
               by_cases c27 : (ji25) < (l0_2.length : Int)
               ·rw [if_pos c27] at H
                have c27b0 : decide ((ji25) < (l0_2.length : Int)) = true := decide_eq_true c27
                clear c27
                by_cases c28 : 0 < (((rd_T84 l0_2 (ji25)).f0).length : Int)
                ·rw [if_pos c28] at H
                 have c28b0 : decide (0 < (((rd_T84 l0_2 (ji25)).f0).length : Int)) = true := decide_eq_true c28
                 have c28b1 : decide (0 < ((rd_T84 l0_2 (ji25)).f0).length) = true := decide_eq_true (by omega)
                 clear c28
                 by_cases c29 : 0 < (((rd_T84 l0_2 x21_2).f0).length : Int)
                 ·rw [if_pos c29] at H
                  have c29b0 : decide (0 < (((rd_T84 l0_2 x21_2).f0).length : Int)) = true := decide_eq_true c29
                  have c29b1 : decide (0 < ((rd_T84 l0_2 x21_2).f0).length) = true := decide_eq_true (by omega)
                  clear c29
                  have H' := Aside0.mk H
                  clear H
                  try go_wp2
                  have n0_ : Aside0 (((w15.setCell ⟨gb288, 0, none⟩ (.slice A287_0 ((rd_T84 l0_2 x21_2).f0).length c287_0)).setCell ⟨gb288, 1, none⟩ (.string ((rd_T84 l0_2 x21_2).f1))).heap[gb284]? = some (.cells #[.int .i64 a0_0, .int .i64 a0_1, .slice (some ad287) l0_2.length c0_2] 37 (0, 0))) := ⟨by (with_reducible repeat (first | refine blk_drewN ?_ _ | refine blk_drew ?_ | refine blk_alloc ?_ _)); refine blk_far ?_ NB284_288.out _; (with_reducible repeat (first | refine blk_drewN ?_ _ | refine blk_drew ?_ | refine blk_alloc ?_ _)); refine blk_far ?_ NB284_288.out _; (with_reducible repeat (first | refine blk_drewN ?_ _ | refine blk_drew ?_ | refine blk_alloc ?_ _)); exact BK284.out⟩
                  have n1_ : Aside0 (((w15.setCell ⟨gb288, 0, none⟩ (.slice A287_0 ((rd_T84 l0_2 x21_2).f0).length c287_0)).setCell ⟨gb288, 1, none⟩ (.string ((rd_T84 l0_2 x21_2).f1))).heap[gb288]? = some (.cells #[.slice A287_0 ((rd_T84 l0_2 x21_2).f0).length c287_0, .string ((rd_T84 l0_2 x21_2).f1)] 84 (0, 0))) := ⟨by (with_reducible repeat (first | refine blk_drewN ?_ _ | refine blk_drew ?_ | refine blk_alloc ?_ _)); refine blk_put (cs := #[.slice A287_0 ((rd_T84 l0_2 x21_2).f0).length c287_0, .string (⟨#[]⟩ : ByteArray)]) ?_ 1 _ rfl; (with_reducible repeat (first | refine blk_drewN ?_ _ | refine blk_drew ?_ | refine blk_alloc ?_ _)); refine blk_put (cs := #[.slice none 0 0, .string (⟨#[]⟩ : ByteArray)]) ?_ 0 _ rfl; (with_reducible repeat (first | refine blk_drewN ?_ _ | refine blk_drew ?_ | refine blk_alloc ?_ _)); exact BK288.out⟩
                  have n2_ : Aside0 (Below w.heap.size w ((w15.setCell ⟨gb288, 0, none⟩ (.slice A287_0 ((rd_T84 l0_2 x21_2).f0).length c287_0)).setCell ⟨gb288, 1, none⟩ (.string ((rd_T84 l0_2 x21_2).f1)))) := ⟨by repeat (first | (with_reducible first | exact HB.out | apply below_alloc | apply pw_below_drewN | apply below_drew1 | refine below_set ?_ GE284.out | refine below_set ?_ GE288.out) | exact HB.out)⟩
                  (try clear BK284)
                  (try clear BK288)
                  (try clear HB)
                  generalize ((w15.setCell ⟨gb288, 0, none⟩ (.slice A287_0 ((rd_T84 l0_2 x21_2).f0).length c287_0)).setCell ⟨gb288, 1, none⟩ (.string ((rd_T84 l0_2 x21_2).f1))) = w30 at n0_ n1_ n2_ ⊢
                  have BK284 := n0_
                  have BK288 := n1_
                  have HB := n2_
                  clear n0_ n1_ n2_
                  have n0_ := Aside0.mk (blk_drew BK284.out)
                  have n1_ := Aside0.mk (blk_drew BK288.out)
                  have n2_ := Aside0.mk (below_drew1 HB.out)
                  clear BK284
                  clear BK288
                  clear HB
                  have BK284 := n0_
                  have BK288 := n1_
                  have HB := n2_
                  clear n0_ n1_ n2_
                  have p290 : 0 ≤ ((ji25) : Int) := of_decide_eq_true (by first | (with_reducible assumption) | assumption)
                  have q290 : (ji25) < (l0_2.length : Int) := of_decide_eq_true (by first | (with_reducible assumption) | assumption)
                  obtain ⟨ad290, A290_0, c290_0, e290, hx290_0, hx290_1, hl290_0, hi290_0⟩ := at_T84 HR0_2.out (ji25) p290 q290
                  have hw290_1 := hx290_1
                  have hw290_0 := hx290_0
                  obtain rfl : ad287 = ad290 := (by injection e290)
                  replace hx290_0 := (HB.out.cell (World.block_lt_of_cell? w _ hx290_0)).trans hx290_0
                  replace hx290_1 := (HB.out.cell (World.block_lt_of_cell? w _ hx290_1)).trans hx290_1
                  have HR290_0 := Aside0.mk hi290_0
                  have HC290_0 := Aside0.mk hl290_0
                  clear hi290_0 hl290_0
                  replace p290 := eq_true p290
                  replace q290 := eq_true q290
                  have p291 : 0 ≤ (0 : Int) := (by omega)
                  have q291 : 0 < (((rd_T84 l0_2 (ji25)).f0).length : Int) := of_decide_eq_true (by first | (with_reducible assumption) | assumption)
                  obtain ⟨ad291, e291, hx291_0⟩ := Kd.at_int HR290_0.out 0 p291 q291
                  have hw291_0 := hx291_0
                  (try rw [show ((0 : Int)).toNat = 0 from rfl] at hw291_0)
                  (try rw [show 0 * 1 = 0 from rfl] at hw291_0)
                  (try rw [Addr.add_zero'] at hw291_0)
                  cases e291
                  have qi291 : (0 < ((rd_T84 l0_2 (ji25)).f0).length) = True := eq_true (by omega)
                  (try rw [show ((0 : Int)).toNat = 0 from rfl] at hx291_0)
                  (try rw [Addr.add_zero'] at hx291_0)
                  replace hx291_0 := (HB.out.cell (World.block_lt_of_cell? w _ hx291_0)).trans hx291_0
                  replace p291 := eq_true p291
                  replace q291 := eq_true q291
                  have p292 : 0 ≤ (0 : Int) := (by omega)
                  have q292 : 0 < (((rd_T84 l0_2 x21_2).f0).length : Int) := of_decide_eq_true (by first | (with_reducible assumption) | assumption)
                  obtain ⟨ad292, e292, hx292_0⟩ := Kd.at_int HR287_0.out 0 p292 q292
                  have hw292_0 := hx292_0
                  (try rw [show ((0 : Int)).toNat = 0 from rfl] at hw292_0)
                  (try rw [show 0 * 1 = 0 from rfl] at hw292_0)
                  (try rw [Addr.add_zero'] at hw292_0)
                  cases e292
                  have qi292 : (0 < ((rd_T84 l0_2 x21_2).f0).length) = True := eq_true (by omega)
                  (try rw [show ((0 : Int)).toNat = 0 from rfl] at hx292_0)
                  (try rw [Addr.add_zero'] at hx292_0)
                  replace hx292_0 := (HB.out.cell (World.block_lt_of_cell? w _ hx292_0)).trans hx292_0
                  replace p292 := eq_true p292
                  replace q292 := eq_true q292
                  refine start_ (n := 40) (S := fun w' => w'.cell? ⟨gb288, 0, none⟩ = some (.slice (some ad292) ((rd_T84 l0_2 x21_2).f0).length c287_0) ∧ w'.cell? ⟨gb288, 1, none⟩ = some (.string ((rd_T84 l0_2 x21_2).f1)) ∧ w'.cell? ⟨gb284, 0, none⟩ = some (.int .i64 a0_0) ∧ w'.cell? ⟨gb284, 1, none⟩ = some (.int .i64 a0_1) ∧ w'.cell? ⟨gb284, 2, none⟩ = some (.slice (some ad287) l0_2.length c0_2) ∧ w'.cell? (ad287.add (((ji25)).toNat * 2)) = some (.slice (some ad291) ((rd_T84 l0_2 (ji25)).f0).length c290_0) ∧ w'.cell? ⟨(ad287.add (((ji25)).toNat * 2)).block, (ad287.add (((ji25)).toNat * 2)).off + 1, none⟩ = some (.string ((rd_T84 l0_2 (ji25)).f1)) ∧ w'.cell? ad291 = some (.int .i64 (rd ((rd_T84 l0_2 (ji25)).f0) 0)) ∧ w'.cell? ad292 = some (.int .i64 (rd ((rd_T84 l0_2 x21_2).f0) 0))) (ds := []) (.replicate 40 false) (by kernel_rfl) rfl rfl ⟨cz_ BK288.out 0 rfl, cz_ BK288.out 1 rfl, cz_ BK284.out 0 rfl, cz_ BK284.out 1 rfl, cz_ BK284.out 2 rfl, ((HB.out.cell (World.block_lt_of_cell? w _ hw290_0)).trans hw290_0), ((HB.out.cell (World.block_lt_of_cell? w _ hw290_1)).trans hw290_1), ((HB.out.cell (World.block_lt_of_cell? w _ hw291_0)).trans hw291_0), ((HB.out.cell (World.block_lt_of_cell? w _ hw292_0)).trans hw292_0)⟩ (fun hHeld => ?_); refine with_tabW impl_SolverOk.tab7 impl_SolverOk.bits7 (fun HT_ HW_ => ?_)
                  generalize w30.drew = w31 at BK284 BK288 HB HR290_0 hx290_0 hx290_1 hx291_0 hx292_0 hHeld ⊢
                  refine pu_ 0 (some 26) (bv 40 1) rfl rfl (any_of HT_.out (by kernel_rfl)) (fun _ _ _ h => h) (by rfl) (fun w' => by go_simp; with_reducible rfl) (by simp only [Act.put, eA_, e0_, eS_, i64_w, i32_w]; rfl) ?_
                  refine tk_ 1 (some 27) (bv 40 3) rfl rfl (take_ofW HT_.out HW_.out (by kernel_rfl)) (fun _ _ _ h => h) (by rfl) hHeld (fun w' ⟨s0, s1, s2, s3, s4, s5, s6, s7, s8⟩ => by go_simp; with_reducible rfl) (by simp only [Act.put, eA_, e0_, eS_, i64_w, i32_w]; rfl) ?_
                  refine pu_ 2 (some 28) (bv 40 7) rfl rfl (any_of HT_.out (by kernel_rfl)) (fun _ _ _ h => h) (by rfl) (fun w' => by go_simp; with_reducible rfl) (by simp only [Act.put, eA_, e0_, eS_, i64_w, i32_w]; rfl) ?_
                  refine pu_ 3 (some 29) (bv 40 15) rfl rfl (any_of HT_.out (by kernel_rfl)) (fun _ _ _ h => h) (by rfl) (fun w' => by go_simp; with_reducible rfl) (by simp only [Act.put, eA_, e0_, eS_, i64_w, i32_w]; rfl) ?_
                  refine pu_ 4 (some 30) (bv 40 31) rfl rfl (any_of HT_.out (by kernel_rfl)) (fun _ _ _ h => h) (by rfl) (fun w' => by go_simp; with_reducible rfl) (by simp only [Act.put, eA_, e0_, eS_, i64_w, i32_w]; rfl) ?_
                  refine pu_ 5 (some 31) (bv 40 63) rfl rfl (any_of HT_.out (by kernel_rfl)) (fun _ _ _ h => h) (by rfl) (fun w' => by go_simp; with_reducible rfl) (by simp only [Act.put, eA_, e0_, eS_, i64_w, i32_w]; rfl) ?_
                  refine pu_ 7 (some 33) (bv 40 191) rfl rfl (any_of HT_.out (by kernel_rfl)) (fun _ _ _ h => h) (by rfl) (fun w' => by go_simp; with_reducible rfl) (by simp only [Act.put, eA_, e0_, eS_, i64_w, i32_w]; rfl) ?_
                  refine tk_ 6 (some 32) (bv 40 255) rfl rfl (take_ofW HT_.out HW_.out (by kernel_rfl)) (fun _ _ _ h => h) (by rfl) hHeld (fun w' ⟨s0, s1, s2, s3, s4, s5, s6, s7, s8⟩ => by go_simp; with_reducible rfl) (by simp only [Act.put, eA_, e0_, eS_, i64_w, i32_w]; rfl) ?_
                  refine tk_ 8 (some 34) (bv 40 511) rfl rfl (take_ofW HT_.out HW_.out (by kernel_rfl)) (fun _ _ _ h => h) (by rfl) hHeld (fun w' ⟨s0, s1, s2, s3, s4, s5, s6, s7, s8⟩ => by go_simp; with_reducible rfl) (by simp only [Act.put, eA_, e0_, eS_, i64_w, i32_w]; rfl) ?_
                  refine one_ (i := 9) (N := some 35) (bv 40 1023) rfl rfl (one_of HT_.out (by kernel_rfl)) (by decide) (fun K hK => ?_)
                  refine goes_ Try.func19 (by kernel_rfl) rfl #[.slice (some ad292) ((rd_T84 l0_2 x21_2).f0).length c287_0, .int .i64 a0_0] (by rfl) rfl rfl (by (try simp only [List.map_toArray, List.map_cons, List.map_nil]); first | done | rfl | (simp only [List.length_drop, List.length_take]; rfl)) ?_
                  with_reducible refine (impl_RowOk.calls k2 _ _ ((rd_T84 l0_2 x21_2).f0) a0_0 true _ ?side1 ?side2 A21.out).mono ?_
                  (case side1 => exact gC (Kd.C_below HR287_0.out HB.out))
                  (case side2 => exact HC287_0.out)
                  rintro e w' ⟨rfl, ⟨nd, rfl⟩⟩
                  refine ⟨_, rfl, ?_⟩
                  refine hK.out _ _ ⟨cz_ BK288.out 0 rfl, cz_ BK288.out 1 rfl, cz_ BK284.out 0 rfl, cz_ BK284.out 1 rfl, cz_ BK284.out 2 rfl, ((HB.out.cell (World.block_lt_of_cell? w _ hw290_0)).trans hw290_0), ((HB.out.cell (World.block_lt_of_cell? w _ hw290_1)).trans hw290_1), ((HB.out.cell (World.block_lt_of_cell? w _ hw291_0)).trans hw291_0), ((HB.out.cell (World.block_lt_of_cell? w _ hw292_0)).trans hw292_0)⟩ (fun hHeld => ?_)
                  clear hK K
                  refine norm_ (a' := ?_) ?_ ?_
                  rotate_left
                  ·show Act.put _ (some 35) _ = _
                   simp only [Act.put, eA_, e0_, eS_, i64_w, i32_w]
                   rfl
                  refine pu_ 10 (some 36) (bv 40 2047) rfl rfl (any_of HT_.out (by kernel_rfl)) (fun _ _ _ h => h) (by rfl) (fun w' => by go_simp; with_reducible rfl) (by simp only [Act.put, eA_, e0_, eS_, i64_w, i32_w]; rfl) ?_
                  refine pu_ 11 (some 37) (bv 40 4095) rfl rfl (any_of HT_.out (by kernel_rfl)) (fun _ _ _ h => h) (by rfl) (fun w' => by go_simp; with_reducible rfl) (by simp only [Act.put, eA_, e0_, eS_, i64_w, i32_w]; rfl) ?_
                  refine pu_ 12 (some 38) (bv 40 8191) rfl rfl (any_of HT_.out (by kernel_rfl)) (fun _ _ _ h => h) (by rfl) (fun w' => by go_simp; with_reducible rfl) (by simp only [Act.put, eA_, e0_, eS_, i64_w, i32_w]; rfl) ?_
                  refine pu_ 13 (some 39) (bv 40 16383) rfl rfl (any_of HT_.out (by kernel_rfl)) (fun _ _ _ h => h) (by rfl) (fun w' => by go_simp; with_reducible rfl) (by simp only [Act.put, eA_, e0_, eS_, i64_w, i32_w]; rfl) ?_
                  refine pu_ 16 (some 42) (bv 40 81919) rfl rfl (any_of HT_.out (by kernel_rfl)) (fun _ _ _ h => h) (by rfl) (fun w' => by go_simp; with_reducible rfl) (by simp only [Act.put, eA_, e0_, eS_, i64_w, i32_w]; rfl) ?_
                  refine tk_ 14 (some 40) (bv 40 98303) rfl rfl (take_ofW HT_.out HW_.out (by kernel_rfl)) (fun _ _ _ h => h) (by rfl) hHeld (fun w' ⟨s0, s1, s2, s3, s4, s5, s6, s7, s8⟩ => by go_simp; with_reducible rfl) (by simp only [Act.put, eA_, e0_, eS_, i64_w, i32_w]; rfl) ?_
                  refine pu_ 15 (some 41) (bv 40 131071) rfl rfl (any_of HT_.out (by kernel_rfl)) (fun _ _ _ h => h) (by rfl) (fun w' => by go_simp; with_reducible rfl) (by simp only [Act.put, eA_, e0_, eS_, i64_w, i32_w]; rfl) ?_
                  refine tk_ 17 (some 43) (bv 40 262143) rfl rfl (take_ofW HT_.out HW_.out (by kernel_rfl)) (fun _ _ _ h => h) (by rfl) hHeld (fun w' ⟨s0, s1, s2, s3, s4, s5, s6, s7, s8⟩ => by go_simp; with_reducible rfl) (by simp only [Act.put, eA_, e0_, eS_, i64_w, i32_w]; rfl) ?_
                  refine pu_ 18 (some 44) (bv 40 524287) rfl rfl (any_of HT_.out (by kernel_rfl)) (fun _ _ _ h => h) (by rfl) (fun w' => by go_simp; with_reducible rfl) (by simp only [Act.put, eA_, e0_, eS_, i64_w, i32_w]; rfl) ?_
                  refine pu_ 19 (some 45) (bv 40 1048575) rfl rfl (any_of HT_.out (by kernel_rfl)) (fun _ _ _ h => h) (by rfl) (fun w' => by go_simp; with_reducible rfl) (by simp only [Act.put, eA_, e0_, eS_, i64_w, i32_w]; rfl) ?_
                  refine pu_ 20 (some 46) (bv 40 2097151) rfl rfl (any_of HT_.out (by kernel_rfl)) (fun _ _ _ h => h) (by rfl) (fun w' => by go_simp; with_reducible rfl) (by simp only [Act.put, eA_, e0_, eS_, i64_w, i32_w]; rfl) ?_
                  refine pu_ 21 (some 47) (bv 40 4194303) rfl rfl (any_of HT_.out (by kernel_rfl)) (fun _ _ _ h => h) (by rfl) (fun w' => by go_simp; with_reducible rfl) (by simp only [Act.put, eA_, e0_, eS_, i64_w, i32_w]; rfl) ?_
                  refine pu_ 22 (some 48) (bv 40 8388607) rfl rfl (any_of HT_.out (by kernel_rfl)) (fun _ _ _ h => h) (by rfl) (fun w' => by go_simp; with_reducible rfl) (by simp only [Act.put, eA_, e0_, eS_, i64_w, i32_w]; rfl) ?_
                  refine pu_ 23 (some 49) (bv 40 16777215) rfl rfl (any_of HT_.out (by kernel_rfl)) (fun _ _ _ h => h) (by rfl) (fun w' => by go_simp; with_reducible rfl) (by simp only [Act.put, eA_, e0_, eS_, i64_w, i32_w]; rfl) ?_
                  refine pu_ 24 (some 50) (bv 40 33554431) rfl rfl (any_of HT_.out (by kernel_rfl)) (fun _ _ _ h => h) (by rfl) (fun w' => by go_simp; with_reducible rfl) (by simp only [Act.put, eA_, e0_, eS_, i64_w, i32_w]; rfl) ?_
                  refine pu_ 26 (some 52) (bv 40 100663295) rfl rfl (any_of HT_.out (by kernel_rfl)) (fun _ _ _ h => h) (by rfl) (fun w' => by go_simp; with_reducible rfl) (by simp only [Act.put, eA_, e0_, eS_, i64_w, i32_w]; rfl) ?_
                  refine pu_ 27 (some 53) (bv 40 234881023) rfl rfl (any_of HT_.out (by kernel_rfl)) (fun _ _ _ h => h) (by rfl) (fun w' => by go_simp; with_reducible rfl) (by simp only [Act.put, eA_, e0_, eS_, i64_w, i32_w]; rfl) ?_
                  refine pu_ 33 (some 59) (bv 40 8824815615) rfl rfl (any_of HT_.out (by kernel_rfl)) (fun _ _ _ h => h) (by rfl) (fun w' => by go_simp; with_reducible rfl) (by simp only [Act.put, eA_, e0_, eS_, i64_w, i32_w]; rfl) ?_
                  refine tk_ 25 (some 51) (bv 40 8858370047) rfl rfl (take_ofW HT_.out HW_.out (by kernel_rfl)) (fun _ _ _ h => h) (by rfl) hHeld (fun w' ⟨s0, s1, s2, s3, s4, s5, s6, s7, s8⟩ => by go_simp; with_reducible rfl) (by simp only [Act.put, eA_, e0_, eS_, i64_w, i32_w]; rfl) ?_
                  refine pu_ 28 (some 54) (bv 40 9126805503) rfl rfl (any_of HT_.out (by kernel_rfl)) (fun _ _ _ h => h) (by rfl) (fun w' => by go_simp; with_reducible rfl) (by simp only [Act.put, eA_, e0_, eS_, i64_w, i32_w]; rfl) ?_
                  refine pu_ 29 (some 55) (bv 40 9663676415) rfl rfl (any_of HT_.out (by kernel_rfl)) (fun _ _ _ h => h) (by rfl) (fun w' => by go_simp; with_reducible rfl) (by simp only [Act.put, eA_, e0_, eS_, i64_w, i32_w]; rfl) ?_
                  refine tk_ 30 (some 56) (bv 40 10737418239) rfl rfl (take_ofW HT_.out HW_.out (by kernel_rfl)) (fun _ _ _ h => h) (by rfl) hHeld (fun w' ⟨s0, s1, s2, s3, s4, s5, s6, s7, s8⟩ => by go_simp; with_reducible rfl) (by simp only [Act.put, eA_, e0_, eS_, i64_w, i32_w]; rfl) ?_
                  refine pu_ 31 (some 57) (bv 40 12884901887) rfl rfl (any_of HT_.out (by kernel_rfl)) (fun _ _ _ h => h) (by rfl) (fun w' => by go_simp; with_reducible rfl) (by simp only [Act.put, eA_, e0_, eS_, i64_w, i32_w]; rfl) ?_
                  refine tk_ 32 (some 58) (bv 40 17179869183) rfl rfl (take_ofW HT_.out HW_.out (by kernel_rfl)) (fun _ _ _ h => h) (by rfl) hHeld (fun w' ⟨s0, s1, s2, s3, s4, s5, s6, s7, s8⟩ => by go_simp; with_reducible rfl) (by simp only [Act.put, eA_, e0_, eS_, i64_w, i32_w]; rfl) ?_
                  refine tk_ 34 (some 60) (bv 40 34359738367) rfl rfl (take_ofW HT_.out HW_.out (by kernel_rfl)) (fun _ _ _ h => h) (by rfl) hHeld (fun w' ⟨s0, s1, s2, s3, s4, s5, s6, s7, s8⟩ => by go_simp; with_reducible rfl) (by simp only [Act.put, eA_, e0_, eS_, i64_w, i32_w]; rfl) ?_
                  refine pu_ 35 (some 61) (bv 40 68719476735) rfl rfl (any_of HT_.out (by kernel_rfl)) (fun _ _ _ h => h) (by rfl) (fun w' => by go_simp; with_reducible rfl) (by simp only [Act.put, eA_, e0_, eS_, i64_w, i32_w]; rfl) ?_
                  refine tk_ 36 (some 62) (bv 40 137438953471) rfl rfl (take_ofW HT_.out HW_.out (by kernel_rfl)) (fun _ _ _ h => h) (by rfl) hHeld (fun w' ⟨s0, s1, s2, s3, s4, s5, s6, s7, s8⟩ => by go_simp; with_reducible rfl) (by simp only [Act.put, eA_, e0_, eS_, i64_w, i32_w]; rfl) ?_
                  refine pu_ 37 (some 63) (bv 40 274877906943) rfl rfl (any_of HT_.out (by kernel_rfl)) (fun _ _ _ h => h) (by rfl) (fun w' => by go_simp; with_reducible rfl) (by simp only [Act.put, eA_, e0_, eS_, i64_w, i32_w]; rfl) ?_
                  refine pu_ 38 (some 64) (bv 40 549755813887) rfl rfl (any_of HT_.out (by kernel_rfl)) (fun _ _ _ h => h) (by rfl) (fun w' => by go_simp; with_reducible rfl) (by simp only [Act.put, eA_, e0_, eS_, i64_w, i32_w]; rfl) ?_
                  refine pu_ 39 (some 65) (bv 40 1099511627775) rfl rfl (any_of HT_.out (by kernel_rfl)) (fun _ _ _ h => h) (by rfl) (fun w' => by go_simp; with_reducible rfl) (by simp only [Act.put, eA_, e0_, eS_, i64_w, i32_w]; rfl) ?_
                  refine done_ (done_of HT_.out (by kernel_rfl)) ?_
                  try go_wp2
                  go_meet
                  case rel => exact ⟨_, (decide ((rd ((rd_T84 l0_2 (ji25)).f0) 0) ≥ (rd ((rd_T84 l0_2 x21_2).f0) 0))), (by first | rfl | (simp; done) | (simp only [← hji25] <;> (first | rfl | simp)) | (simp [*]; done)), H', ⟨by have := HJ1.out; have := HK2.out; first | omega | exact Nat.le_refl _⟩, ⟨by (with_reducible repeat (first | refine blk_drewN ?_ _ | refine blk_drew ?_ | refine blk_alloc ?_ _)); exact BK284.out⟩, ⟨by (with_reducible repeat (first | refine blk_drewN ?_ _ | refine blk_drew ?_ | refine blk_alloc ?_ _)); exact BK288.out⟩, ⟨by repeat (first | (with_reducible first | exact HB.out | apply below_alloc | apply pw_below_drewN | apply below_drew1 | refine below_set ?_ GE284.out | refine below_set ?_ GE288.out) | exact HB.out)⟩⟩
                 ·rw [if_neg c29] at H
                  exact absurd H (by simp)
                ·rw [if_neg c28] at H
                 exact absurd H (by simp)
               ·rw [if_neg c27] at H
                exact absurd H (by simp)
              ·rw [if_neg c26] at H
               exact absurd H (by simp)
             ·rw [if_neg c24] at H
              have c24b0 : decide (0 < x21_2) = false := decide_eq_false c24
              clear c24
              have H' := Aside0.mk H
              clear H
              try go_wp2
              have n0_ : Aside0 (((w15.setCell ⟨gb288, 0, none⟩ (.slice A287_0 ((rd_T84 l0_2 x21_2).f0).length c287_0)).setCell ⟨gb288, 1, none⟩ (.string ((rd_T84 l0_2 x21_2).f1))).heap[gb284]? = some (.cells #[.int .i64 a0_0, .int .i64 a0_1, .slice (some ad287) l0_2.length c0_2] 37 (0, 0))) := ⟨by (with_reducible repeat (first | refine blk_drewN ?_ _ | refine blk_drew ?_ | refine blk_alloc ?_ _)); refine blk_far ?_ NB284_288.out _; (with_reducible repeat (first | refine blk_drewN ?_ _ | refine blk_drew ?_ | refine blk_alloc ?_ _)); refine blk_far ?_ NB284_288.out _; (with_reducible repeat (first | refine blk_drewN ?_ _ | refine blk_drew ?_ | refine blk_alloc ?_ _)); exact BK284.out⟩
              have n1_ : Aside0 (((w15.setCell ⟨gb288, 0, none⟩ (.slice A287_0 ((rd_T84 l0_2 x21_2).f0).length c287_0)).setCell ⟨gb288, 1, none⟩ (.string ((rd_T84 l0_2 x21_2).f1))).heap[gb288]? = some (.cells #[.slice A287_0 ((rd_T84 l0_2 x21_2).f0).length c287_0, .string ((rd_T84 l0_2 x21_2).f1)] 84 (0, 0))) := ⟨by (with_reducible repeat (first | refine blk_drewN ?_ _ | refine blk_drew ?_ | refine blk_alloc ?_ _)); refine blk_put (cs := #[.slice A287_0 ((rd_T84 l0_2 x21_2).f0).length c287_0, .string (⟨#[]⟩ : ByteArray)]) ?_ 1 _ rfl; (with_reducible repeat (first | refine blk_drewN ?_ _ | refine blk_drew ?_ | refine blk_alloc ?_ _)); refine blk_put (cs := #[.slice none 0 0, .string (⟨#[]⟩ : ByteArray)]) ?_ 0 _ rfl; (with_reducible repeat (first | refine blk_drewN ?_ _ | refine blk_drew ?_ | refine blk_alloc ?_ _)); exact BK288.out⟩
              have n2_ : Aside0 (Below w.heap.size w ((w15.setCell ⟨gb288, 0, none⟩ (.slice A287_0 ((rd_T84 l0_2 x21_2).f0).length c287_0)).setCell ⟨gb288, 1, none⟩ (.string ((rd_T84 l0_2 x21_2).f1)))) := ⟨by repeat (first | (with_reducible first | exact HB.out | apply below_alloc | apply pw_below_drewN | apply below_drew1 | refine below_set ?_ GE284.out | refine below_set ?_ GE288.out) | exact HB.out)⟩
              (try clear BK284)
              (try clear BK288)
              (try clear HB)
              generalize ((w15.setCell ⟨gb288, 0, none⟩ (.slice A287_0 ((rd_T84 l0_2 x21_2).f0).length c287_0)).setCell ⟨gb288, 1, none⟩ (.string ((rd_T84 l0_2 x21_2).f1))) = w32 at n0_ n1_ n2_ ⊢
              have BK284 := n0_
              have BK288 := n1_
              have HB := n2_
              clear n0_ n1_ n2_
              have n0_ := Aside0.mk (blk_drew BK284.out)
              have n1_ := Aside0.mk (blk_drew BK288.out)
              have n2_ := Aside0.mk (below_drew1 HB.out)
              clear BK284
              clear BK288
              clear HB
              have BK284 := n0_
              have BK288 := n1_
              have HB := n2_
              clear n0_ n1_ n2_
              refine start_ (n := 40) (S := fun w' => w'.cell? ⟨gb288, 0, none⟩ = some (.slice A287_0 ((rd_T84 l0_2 x21_2).f0).length c287_0) ∧ w'.cell? ⟨gb288, 1, none⟩ = some (.string ((rd_T84 l0_2 x21_2).f1)) ∧ w'.cell? ⟨gb284, 0, none⟩ = some (.int .i64 a0_0) ∧ w'.cell? ⟨gb284, 1, none⟩ = some (.int .i64 a0_1) ∧ w'.cell? ⟨gb284, 2, none⟩ = some (.slice (some ad287) l0_2.length c0_2)) (ds := []) (.replicate 40 false) (by kernel_rfl) rfl rfl ⟨cz_ BK288.out 0 rfl, cz_ BK288.out 1 rfl, cz_ BK284.out 0 rfl, cz_ BK284.out 1 rfl, cz_ BK284.out 2 rfl⟩ (fun hHeld => ?_); refine with_tabW impl_SolverOk.tab7 impl_SolverOk.bits7 (fun HT_ HW_ => ?_)
              generalize w32.drew = w33 at BK284 BK288 HB hHeld ⊢
              refine pu_ 0 (some 26) (bv 40 1) rfl rfl (any_of HT_.out (by kernel_rfl)) (fun _ _ _ h => h) (by rfl) (fun w' => by go_simp; with_reducible rfl) (by simp only [Act.put, eA_, e0_, eS_, i64_w, i32_w]; rfl) ?_
              refine tk_ 1 (some 27) (bv 40 3) rfl rfl (take_ofW HT_.out HW_.out (by kernel_rfl)) (fun _ _ _ h => h) (by rfl) hHeld (fun w' ⟨s0, s1, s2, s3, s4⟩ => by go_simp; with_reducible rfl) (by simp only [Act.put, eA_, e0_, eS_, i64_w, i32_w]; rfl) ?_
              refine pu_ 2 (some 28) (bv 40 7) rfl rfl (any_of HT_.out (by kernel_rfl)) (fun _ _ _ h => h) (by rfl) (fun w' => by go_simp; with_reducible rfl) (by simp only [Act.put, eA_, e0_, eS_, i64_w, i32_w]; rfl) ?_
              refine pu_ 3 (some 29) (bv 40 15) rfl rfl (any_of HT_.out (by kernel_rfl)) (fun _ _ _ h => h) (by rfl) (fun w' => by go_simp; with_reducible rfl) (by simp only [Act.put, eA_, e0_, eS_, i64_w, i32_w]; rfl) ?_
              refine pu_ 4 (some 30) (bv 40 31) rfl rfl (any_of HT_.out (by kernel_rfl)) (fun _ _ _ h => h) (by rfl) (fun w' => by go_simp; with_reducible rfl) (by simp only [Act.put, eA_, e0_, eS_, i64_w, i32_w]; rfl) ?_
              refine pu_ 5 (some 31) (bv 40 63) rfl rfl (any_of HT_.out (by kernel_rfl)) (fun _ _ _ h => h) (by rfl) (fun w' => by go_simp; with_reducible rfl) (by simp only [Act.put, eA_, e0_, eS_, i64_w, i32_w]; rfl) ?_
              refine pu_ 7 (some 33) (bv 40 191) rfl rfl (any_of HT_.out (by kernel_rfl)) (fun _ _ _ h => h) (by rfl) (fun w' => by go_simp; with_reducible rfl) (by simp only [Act.put, eA_, e0_, eS_, i64_w, i32_w]; rfl) ?_
              refine tk_ 6 (some 32) (bv 40 255) rfl rfl (take_ofW HT_.out HW_.out (by kernel_rfl)) (fun _ _ _ h => h) (by rfl) hHeld (fun w' ⟨s0, s1, s2, s3, s4⟩ => by go_simp; with_reducible rfl) (by simp only [Act.put, eA_, e0_, eS_, i64_w, i32_w]; rfl) ?_
              refine tk_ 8 (some 34) (bv 40 511) rfl rfl (take_ofW HT_.out HW_.out (by kernel_rfl)) (fun _ _ _ h => h) (by rfl) hHeld (fun w' ⟨s0, s1, s2, s3, s4⟩ => by go_simp; with_reducible rfl) (by simp only [Act.put, eA_, e0_, eS_, i64_w, i32_w]; rfl) ?_
              refine one_ (i := 9) (N := some 35) (bv 40 1023) rfl rfl (one_of HT_.out (by kernel_rfl)) (by decide) (fun K hK => ?_)
              refine goes_ Try.func19 (by kernel_rfl) rfl #[.slice A287_0 ((rd_T84 l0_2 x21_2).f0).length c287_0, .int .i64 a0_0] (by rfl) rfl rfl (by (try simp only [List.map_toArray, List.map_cons, List.map_nil]); first | done | rfl | (simp only [List.length_drop, List.length_take]; rfl)) ?_
              with_reducible refine (impl_RowOk.calls k2 _ _ ((rd_T84 l0_2 x21_2).f0) a0_0 true _ ?side1 ?side2 A21.out).mono ?_
              (case side1 => exact gC (Kd.C_below HR287_0.out HB.out))
              (case side2 => exact HC287_0.out)
              rintro e w' ⟨rfl, ⟨nd, rfl⟩⟩
              refine ⟨_, rfl, ?_⟩
              refine hK.out _ _ ⟨cz_ BK288.out 0 rfl, cz_ BK288.out 1 rfl, cz_ BK284.out 0 rfl, cz_ BK284.out 1 rfl, cz_ BK284.out 2 rfl⟩ (fun hHeld => ?_)
              clear hK K
              refine norm_ (a' := ?_) ?_ ?_
              rotate_left
              ·show Act.put _ (some 35) _ = _
               simp only [Act.put, eA_, e0_, eS_, i64_w, i32_w]
               rfl
              refine pu_ 10 (some 36) (bv 40 2047) rfl rfl (any_of HT_.out (by kernel_rfl)) (fun _ _ _ h => h) (by rfl) (fun w' => by go_simp; with_reducible rfl) (by simp only [Act.put, eA_, e0_, eS_, i64_w, i32_w]; rfl) ?_
              refine pu_ 11 (some 37) (bv 40 4095) rfl rfl (any_of HT_.out (by kernel_rfl)) (fun _ _ _ h => h) (by rfl) (fun w' => by go_simp; with_reducible rfl) (by simp only [Act.put, eA_, e0_, eS_, i64_w, i32_w]; rfl) ?_
              refine pu_ 12 (some 38) (bv 40 8191) rfl rfl (any_of HT_.out (by kernel_rfl)) (fun _ _ _ h => h) (by rfl) (fun w' => by go_simp; with_reducible rfl) (by simp only [Act.put, eA_, e0_, eS_, i64_w, i32_w]; rfl) ?_
              refine pu_ 13 (some 39) (bv 40 16383) rfl rfl (any_of HT_.out (by kernel_rfl)) (fun _ _ _ h => h) (by rfl) (fun w' => by go_simp; with_reducible rfl) (by simp only [Act.put, eA_, e0_, eS_, i64_w, i32_w]; rfl) ?_
              refine pu_ 16 (some 42) (bv 40 81919) rfl rfl (any_of HT_.out (by kernel_rfl)) (fun _ _ _ h => h) (by rfl) (fun w' => by go_simp; with_reducible rfl) (by simp only [Act.put, eA_, e0_, eS_, i64_w, i32_w]; rfl) ?_
              refine tk_ 14 (some 40) (bv 40 98303) rfl rfl (take_ofW HT_.out HW_.out (by kernel_rfl)) (fun _ _ _ h => h) (by rfl) hHeld (fun w' ⟨s0, s1, s2, s3, s4⟩ => by go_simp; with_reducible rfl) (by simp only [Act.put, eA_, e0_, eS_, i64_w, i32_w]; rfl) ?_
              refine pu_ 15 (some 41) (bv 40 131071) rfl rfl (any_of HT_.out (by kernel_rfl)) (fun _ _ _ h => h) (by rfl) (fun w' => by go_simp; with_reducible rfl) (by simp only [Act.put, eA_, e0_, eS_, i64_w, i32_w]; rfl) ?_
              refine tk_ 17 (some 43) (bv 40 262143) rfl rfl (take_ofW HT_.out HW_.out (by kernel_rfl)) (fun _ _ _ h => h) (by rfl) hHeld (fun w' ⟨s0, s1, s2, s3, s4⟩ => by go_simp; with_reducible rfl) (by simp only [Act.put, eA_, e0_, eS_, i64_w, i32_w]; rfl) ?_
              refine pu_ 18 (some 44) (bv 40 524287) rfl rfl (any_of HT_.out (by kernel_rfl)) (fun _ _ _ h => h) (by rfl) (fun w' => by go_simp; with_reducible rfl) (by simp only [Act.put, eA_, e0_, eS_, i64_w, i32_w]; rfl) ?_
              refine pu_ 19 (some 45) (bv 40 1048575) rfl rfl (any_of HT_.out (by kernel_rfl)) (fun _ _ _ h => h) (by rfl) (fun w' => by go_simp; with_reducible rfl) (by simp only [Act.put, eA_, e0_, eS_, i64_w, i32_w]; rfl) ?_
              refine pu_ 20 (some 46) (bv 40 2097151) rfl rfl (any_of HT_.out (by kernel_rfl)) (fun _ _ _ h => h) (by rfl) (fun w' => by go_simp; with_reducible rfl) (by simp only [Act.put, eA_, e0_, eS_, i64_w, i32_w]; rfl) ?_
              refine pu_ 21 (some 47) (bv 40 4194303) rfl rfl (any_of HT_.out (by kernel_rfl)) (fun _ _ _ h => h) (by rfl) (fun w' => by go_simp; with_reducible rfl) (by simp only [Act.put, eA_, e0_, eS_, i64_w, i32_w]; rfl) ?_
              refine pu_ 22 (some 48) (bv 40 8388607) rfl rfl (any_of HT_.out (by kernel_rfl)) (fun _ _ _ h => h) (by rfl) (fun w' => by go_simp; with_reducible rfl) (by simp only [Act.put, eA_, e0_, eS_, i64_w, i32_w]; rfl) ?_
              refine pu_ 23 (some 49) (bv 40 16777215) rfl rfl (any_of HT_.out (by kernel_rfl)) (fun _ _ _ h => h) (by rfl) (fun w' => by go_simp; with_reducible rfl) (by simp only [Act.put, eA_, e0_, eS_, i64_w, i32_w]; rfl) ?_
              refine sk_ 14 [24, 25, 26, 27, 28, 29, 30, 31, 32, 33, 34, 35, 36, 37] [50, 51, 52, 53, 54, 55, 56, 57, 58, 59, 60, 61, 62, 63] (bv 40 274877906943) rfl (skB_of HT_.out (by kernel_rfl)) (by kernel_rfl) (fun _ _ _ _ _ h => h) (by simp only [putU, Act.put, eA_, e0_, eS_]; rfl) ?_
              refine pu_ 38 (some 64) (bv 40 549755813887) rfl rfl (any_of HT_.out (by kernel_rfl)) (fun _ _ _ h => h) (by rfl) (fun w' => by go_simp; with_reducible rfl) (by simp only [Act.put, eA_, e0_, eS_, i64_w, i32_w]; rfl) ?_
              refine pu_ 39 (some 65) (bv 40 1099511627775) rfl rfl (any_of HT_.out (by kernel_rfl)) (fun _ _ _ h => h) (by rfl) (fun w' => by go_simp; with_reducible rfl) (by simp only [Act.put, eA_, e0_, eS_, i64_w, i32_w]; rfl) ?_
              refine done_ (done_of HT_.out (by kernel_rfl)) ?_
              try go_wp2
              go_meet
              case rel => exact ⟨_, (false), (by first | rfl | (simp; done) | (simp [*]; done) | (simp [wrap64]; done)), H', ⟨by have := HJ1.out; have := HK2.out; first | omega | exact Nat.le_refl _⟩, ⟨by (with_reducible repeat (first | refine blk_drewN ?_ _ | refine blk_drew ?_ | refine blk_alloc ?_ _)); exact BK284.out⟩, ⟨by (with_reducible repeat (first | refine blk_drewN ?_ _ | refine blk_drew ?_ | refine blk_alloc ?_ _)); exact BK288.out⟩, ⟨by repeat (first | (with_reducible first | exact HB.out | apply below_alloc | apply pw_below_drewN | apply below_drew1 | refine below_set ?_ GE284.out | refine below_set ?_ GE288.out) | exact HB.out)⟩⟩
            ·rw [if_neg c23] at H
             have c23b0 : ((((rd_T84 l0_2 x21_2).f1).size : Int) == a0_1) = false := beq_eq_false_iff_ne.mpr c23
             have c23b1 : ((((rd_T84 l0_2 x21_2).f1).size : Int) != a0_1) = true := bne_iff_ne.mpr c23
             have H' := Aside0.mk H
             clear H
             try go_wp2
             have n0_ : Aside0 (((w15.setCell ⟨gb288, 0, none⟩ (.slice A287_0 ((rd_T84 l0_2 x21_2).f0).length c287_0)).setCell ⟨gb288, 1, none⟩ (.string ((rd_T84 l0_2 x21_2).f1))).heap[gb284]? = some (.cells #[.int .i64 a0_0, .int .i64 a0_1, .slice (some ad287) l0_2.length c0_2] 37 (0, 0))) := ⟨by (with_reducible repeat (first | refine blk_drewN ?_ _ | refine blk_drew ?_ | refine blk_alloc ?_ _)); refine blk_far ?_ NB284_288.out _; (with_reducible repeat (first | refine blk_drewN ?_ _ | refine blk_drew ?_ | refine blk_alloc ?_ _)); refine blk_far ?_ NB284_288.out _; (with_reducible repeat (first | refine blk_drewN ?_ _ | refine blk_drew ?_ | refine blk_alloc ?_ _)); exact BK284.out⟩
             have n1_ : Aside0 (((w15.setCell ⟨gb288, 0, none⟩ (.slice A287_0 ((rd_T84 l0_2 x21_2).f0).length c287_0)).setCell ⟨gb288, 1, none⟩ (.string ((rd_T84 l0_2 x21_2).f1))).heap[gb288]? = some (.cells #[.slice A287_0 ((rd_T84 l0_2 x21_2).f0).length c287_0, .string ((rd_T84 l0_2 x21_2).f1)] 84 (0, 0))) := ⟨by (with_reducible repeat (first | refine blk_drewN ?_ _ | refine blk_drew ?_ | refine blk_alloc ?_ _)); refine blk_put (cs := #[.slice A287_0 ((rd_T84 l0_2 x21_2).f0).length c287_0, .string (⟨#[]⟩ : ByteArray)]) ?_ 1 _ rfl; (with_reducible repeat (first | refine blk_drewN ?_ _ | refine blk_drew ?_ | refine blk_alloc ?_ _)); refine blk_put (cs := #[.slice none 0 0, .string (⟨#[]⟩ : ByteArray)]) ?_ 0 _ rfl; (with_reducible repeat (first | refine blk_drewN ?_ _ | refine blk_drew ?_ | refine blk_alloc ?_ _)); exact BK288.out⟩
             have n2_ : Aside0 (Below w.heap.size w ((w15.setCell ⟨gb288, 0, none⟩ (.slice A287_0 ((rd_T84 l0_2 x21_2).f0).length c287_0)).setCell ⟨gb288, 1, none⟩ (.string ((rd_T84 l0_2 x21_2).f1)))) := ⟨by repeat (first | (with_reducible first | exact HB.out | apply below_alloc | apply pw_below_drewN | apply below_drew1 | refine below_set ?_ GE284.out | refine below_set ?_ GE288.out) | exact HB.out)⟩
             (try clear BK284)
             (try clear BK288)
             (try clear HB)
             generalize ((w15.setCell ⟨gb288, 0, none⟩ (.slice A287_0 ((rd_T84 l0_2 x21_2).f0).length c287_0)).setCell ⟨gb288, 1, none⟩ (.string ((rd_T84 l0_2 x21_2).f1))) = w34 at n0_ n1_ n2_ ⊢
             have BK284 := n0_
             have BK288 := n1_
             have HB := n2_
             clear n0_ n1_ n2_
             have n0_ := Aside0.mk (blk_drew BK284.out)
             have n1_ := Aside0.mk (blk_drew BK288.out)
             have n2_ := Aside0.mk (below_drew1 HB.out)
             clear BK284
             clear BK288
             clear HB
             have BK284 := n0_
             have BK288 := n1_
             have HB := n2_
             clear n0_ n1_ n2_
             refine start_ (n := 40) (S := fun w' => w'.cell? ⟨gb288, 0, none⟩ = some (.slice A287_0 ((rd_T84 l0_2 x21_2).f0).length c287_0) ∧ w'.cell? ⟨gb288, 1, none⟩ = some (.string ((rd_T84 l0_2 x21_2).f1)) ∧ w'.cell? ⟨gb284, 0, none⟩ = some (.int .i64 a0_0) ∧ w'.cell? ⟨gb284, 1, none⟩ = some (.int .i64 a0_1) ∧ w'.cell? ⟨gb284, 2, none⟩ = some (.slice (some ad287) l0_2.length c0_2)) (ds := []) (.replicate 40 false) (by kernel_rfl) rfl rfl ⟨cz_ BK288.out 0 rfl, cz_ BK288.out 1 rfl, cz_ BK284.out 0 rfl, cz_ BK284.out 1 rfl, cz_ BK284.out 2 rfl⟩ (fun hHeld => ?_); refine with_tabW impl_SolverOk.tab7 impl_SolverOk.bits7 (fun HT_ HW_ => ?_)
             generalize w34.drew = w35 at BK284 BK288 HB hHeld ⊢
             refine pu_ 0 (some 26) (bv 40 1) rfl rfl (any_of HT_.out (by kernel_rfl)) (fun _ _ _ h => h) (by rfl) (fun w' => by go_simp; with_reducible rfl) (by simp only [Act.put, eA_, e0_, eS_, i64_w, i32_w]; rfl) ?_
             refine tk_ 1 (some 27) (bv 40 3) rfl rfl (take_ofW HT_.out HW_.out (by kernel_rfl)) (fun _ _ _ h => h) (by rfl) hHeld (fun w' ⟨s0, s1, s2, s3, s4⟩ => by go_simp; with_reducible rfl) (by simp only [Act.put, eA_, e0_, eS_, i64_w, i32_w]; rfl) ?_
             refine pu_ 2 (some 28) (bv 40 7) rfl rfl (any_of HT_.out (by kernel_rfl)) (fun _ _ _ h => h) (by rfl) (fun w' => by go_simp; with_reducible rfl) (by simp only [Act.put, eA_, e0_, eS_, i64_w, i32_w]; rfl) ?_
             refine pu_ 3 (some 29) (bv 40 15) rfl rfl (any_of HT_.out (by kernel_rfl)) (fun _ _ _ h => h) (by rfl) (fun w' => by go_simp; with_reducible rfl) (by simp only [Act.put, eA_, e0_, eS_, i64_w, i32_w]; rfl) ?_
             refine pu_ 4 (some 30) (bv 40 31) rfl rfl (any_of HT_.out (by kernel_rfl)) (fun _ _ _ h => h) (by rfl) (fun w' => by go_simp; with_reducible rfl) (by simp only [Act.put, eA_, e0_, eS_, i64_w, i32_w]; rfl) ?_
             refine pu_ 5 (some 31) (bv 40 63) rfl rfl (any_of HT_.out (by kernel_rfl)) (fun _ _ _ h => h) (by rfl) (fun w' => by go_simp; with_reducible rfl) (by simp only [Act.put, eA_, e0_, eS_, i64_w, i32_w]; rfl) ?_
             refine pu_ 7 (some 33) (bv 40 191) rfl rfl (any_of HT_.out (by kernel_rfl)) (fun _ _ _ h => h) (by rfl) (fun w' => by go_simp; with_reducible rfl) (by simp only [Act.put, eA_, e0_, eS_, i64_w, i32_w]; rfl) ?_
             refine tk_ 6 (some 32) (bv 40 255) rfl rfl (take_ofW HT_.out HW_.out (by kernel_rfl)) (fun _ _ _ h => h) (by rfl) hHeld (fun w' ⟨s0, s1, s2, s3, s4⟩ => by go_simp; with_reducible rfl) (by simp only [Act.put, eA_, e0_, eS_, i64_w, i32_w]; rfl) ?_
             refine tk_ 8 (some 34) (bv 40 511) rfl rfl (take_ofW HT_.out HW_.out (by kernel_rfl)) (fun _ _ _ h => h) (by rfl) hHeld (fun w' ⟨s0, s1, s2, s3, s4⟩ => by go_simp; with_reducible rfl) (by simp only [Act.put, eA_, e0_, eS_, i64_w, i32_w]; rfl) ?_
             refine one_ (i := 9) (N := some 35) (bv 40 1023) rfl rfl (one_of HT_.out (by kernel_rfl)) (by decide) (fun K hK => ?_)
             refine goes_ Try.func19 (by kernel_rfl) rfl #[.slice A287_0 ((rd_T84 l0_2 x21_2).f0).length c287_0, .int .i64 a0_0] (by rfl) rfl rfl (by (try simp only [List.map_toArray, List.map_cons, List.map_nil]); first | done | rfl | (simp only [List.length_drop, List.length_take]; rfl)) ?_
             with_reducible refine (impl_RowOk.calls k2 _ _ ((rd_T84 l0_2 x21_2).f0) a0_0 true _ ?side1 ?side2 A21.out).mono ?_
             (case side1 => exact gC (Kd.C_below HR287_0.out HB.out))
             (case side2 => exact HC287_0.out)
             rintro e w' ⟨rfl, ⟨nd, rfl⟩⟩
             refine ⟨_, rfl, ?_⟩
             refine hK.out _ _ ⟨cz_ BK288.out 0 rfl, cz_ BK288.out 1 rfl, cz_ BK284.out 0 rfl, cz_ BK284.out 1 rfl, cz_ BK284.out 2 rfl⟩ (fun hHeld => ?_)
             clear hK K
             refine norm_ (a' := ?_) ?_ ?_
             rotate_left
             ·show Act.put _ (some 35) _ = _
              simp only [Act.put, eA_, e0_, eS_, i64_w, i32_w]
              rfl
             refine pu_ 10 (some 36) (bv 40 2047) rfl rfl (any_of HT_.out (by kernel_rfl)) (fun _ _ _ h => h) (by rfl) (fun w' => by go_simp; with_reducible rfl) (by simp only [Act.put, eA_, e0_, eS_, i64_w, i32_w]; rfl) ?_
             refine pu_ 11 (some 37) (bv 40 4095) rfl rfl (any_of HT_.out (by kernel_rfl)) (fun _ _ _ h => h) (by rfl) (fun w' => by go_simp; with_reducible rfl) (by simp only [Act.put, eA_, e0_, eS_, i64_w, i32_w]; rfl) ?_
             refine pu_ 12 (some 38) (bv 40 8191) rfl rfl (any_of HT_.out (by kernel_rfl)) (fun _ _ _ h => h) (by rfl) (fun w' => by go_simp; with_reducible rfl) (by simp only [Act.put, eA_, e0_, eS_, i64_w, i32_w]; rfl) ?_
             refine pu_ 13 (some 39) (bv 40 16383) rfl rfl (any_of HT_.out (by kernel_rfl)) (fun _ _ _ h => h) (by rfl) (fun w' => by go_simp; with_reducible rfl) (by simp only [Act.put, eA_, e0_, eS_, i64_w, i32_w]; rfl) ?_
             refine pu_ 16 (some 42) (bv 40 81919) rfl rfl (any_of HT_.out (by kernel_rfl)) (fun _ _ _ h => h) (by rfl) (fun w' => by go_simp; with_reducible rfl) (by simp only [Act.put, eA_, e0_, eS_, i64_w, i32_w]; rfl) ?_
             refine tk_ 14 (some 40) (bv 40 98303) rfl rfl (take_ofW HT_.out HW_.out (by kernel_rfl)) (fun _ _ _ h => h) (by rfl) hHeld (fun w' ⟨s0, s1, s2, s3, s4⟩ => by go_simp; with_reducible rfl) (by simp only [Act.put, eA_, e0_, eS_, i64_w, i32_w]; rfl) ?_
             refine pu_ 15 (some 41) (bv 40 131071) rfl rfl (any_of HT_.out (by kernel_rfl)) (fun _ _ _ h => h) (by rfl) (fun w' => by go_simp; with_reducible rfl) (by simp only [Act.put, eA_, e0_, eS_, i64_w, i32_w]; rfl) ?_
             refine tk_ 17 (some 43) (bv 40 262143) rfl rfl (take_ofW HT_.out HW_.out (by kernel_rfl)) (fun _ _ _ h => h) (by rfl) hHeld (fun w' ⟨s0, s1, s2, s3, s4⟩ => by go_simp; with_reducible rfl) (by simp only [Act.put, eA_, e0_, eS_, i64_w, i32_w]; rfl) ?_
             refine pu_ 18 (some 44) (bv 40 524287) rfl rfl (any_of HT_.out (by kernel_rfl)) (fun _ _ _ h => h) (by rfl) (fun w' => by go_simp; with_reducible rfl) (by simp only [Act.put, eA_, e0_, eS_, i64_w, i32_w]; rfl) ?_
             refine pu_ 19 (some 45) (bv 40 1048575) rfl rfl (any_of HT_.out (by kernel_rfl)) (fun _ _ _ h => h) (by rfl) (fun w' => by go_simp; with_reducible rfl) (by simp only [Act.put, eA_, e0_, eS_, i64_w, i32_w]; rfl) ?_
             refine pu_ 20 (some 46) (bv 40 2097151) rfl rfl (any_of HT_.out (by kernel_rfl)) (fun _ _ _ h => h) (by rfl) (fun w' => by go_simp; with_reducible rfl) (by simp only [Act.put, eA_, e0_, eS_, i64_w, i32_w]; rfl) ?_
             refine sk_ 18 [21, 22, 23, 24, 25, 26, 27, 28, 29, 30, 31, 32, 33, 34, 35, 36, 37, 38] [47, 48, 49, 50, 51, 52, 53, 54, 55, 56, 57, 58, 59, 60, 61, 62, 63, 64] (bv 40 549755813887) rfl (skB_of HT_.out (by kernel_rfl)) (by kernel_rfl) (fun _ _ _ _ _ h => h) (by simp only [putU, Act.put, eA_, e0_, eS_]; rfl) ?_
             refine pu_ 39 (some 65) (bv 40 1099511627775) rfl rfl (any_of HT_.out (by kernel_rfl)) (fun _ _ _ h => h) (by rfl) (fun w' => by go_simp; with_reducible rfl) (by simp only [Act.put, eA_, e0_, eS_, i64_w, i32_w]; rfl) ?_
             refine done_ (done_of HT_.out (by kernel_rfl)) ?_
             try go_wp2
             go_meet
             case rel => exact ⟨_, (true), (by first | rfl | (simp; done) | (simp [*]; done) | (simp [wrap64]; done)), H', ⟨by have := HJ1.out; have := HK2.out; first | omega | exact Nat.le_refl _⟩, ⟨by (with_reducible repeat (first | refine blk_drewN ?_ _ | refine blk_drew ?_ | refine blk_alloc ?_ _)); exact BK284.out⟩, ⟨by (with_reducible repeat (first | refine blk_drewN ?_ _ | refine blk_drew ?_ | refine blk_alloc ?_ _)); exact BK288.out⟩, ⟨by repeat (first | (with_reducible first | exact HB.out | apply below_alloc | apply pw_below_drewN | apply below_drew1 | refine below_set ?_ GE284.out | refine below_set ?_ GE288.out) | exact HB.out)⟩⟩
           ·replace c22 := Bool.eq_false_iff.mpr c22
            subst c22
            have H1 : (impl_SolverOk.j2 k2 x3_2 l0_2 (l0_2.length : Int) x21_2 true a0_0 a0_1 l0_2 ((rd_T84 l0_2 x21_2).f0) ((rd_T84 l0_2 x21_2).f1)) = some r := by rw [if_neg (show ¬ (false = true) by decide)] at H; exact H
            clear H
            have H := H1
            clear H1
            have H' := Aside0.mk H
            clear H
            try go_wp2
            have n0_ : Aside0 (((w15.setCell ⟨gb288, 0, none⟩ (.slice A287_0 ((rd_T84 l0_2 x21_2).f0).length c287_0)).setCell ⟨gb288, 1, none⟩ (.string ((rd_T84 l0_2 x21_2).f1))).heap[gb284]? = some (.cells #[.int .i64 a0_0, .int .i64 a0_1, .slice (some ad287) l0_2.length c0_2] 37 (0, 0))) := ⟨by (with_reducible repeat (first | refine blk_drewN ?_ _ | refine blk_drew ?_ | refine blk_alloc ?_ _)); refine blk_far ?_ NB284_288.out _; (with_reducible repeat (first | refine blk_drewN ?_ _ | refine blk_drew ?_ | refine blk_alloc ?_ _)); refine blk_far ?_ NB284_288.out _; (with_reducible repeat (first | refine blk_drewN ?_ _ | refine blk_drew ?_ | refine blk_alloc ?_ _)); exact BK284.out⟩
            have n1_ : Aside0 (((w15.setCell ⟨gb288, 0, none⟩ (.slice A287_0 ((rd_T84 l0_2 x21_2).f0).length c287_0)).setCell ⟨gb288, 1, none⟩ (.string ((rd_T84 l0_2 x21_2).f1))).heap[gb288]? = some (.cells #[.slice A287_0 ((rd_T84 l0_2 x21_2).f0).length c287_0, .string ((rd_T84 l0_2 x21_2).f1)] 84 (0, 0))) := ⟨by (with_reducible repeat (first | refine blk_drewN ?_ _ | refine blk_drew ?_ | refine blk_alloc ?_ _)); refine blk_put (cs := #[.slice A287_0 ((rd_T84 l0_2 x21_2).f0).length c287_0, .string (⟨#[]⟩ : ByteArray)]) ?_ 1 _ rfl; (with_reducible repeat (first | refine blk_drewN ?_ _ | refine blk_drew ?_ | refine blk_alloc ?_ _)); refine blk_put (cs := #[.slice none 0 0, .string (⟨#[]⟩ : ByteArray)]) ?_ 0 _ rfl; (with_reducible repeat (first | refine blk_drewN ?_ _ | refine blk_drew ?_ | refine blk_alloc ?_ _)); exact BK288.out⟩
            have n2_ : Aside0 (Below w.heap.size w ((w15.setCell ⟨gb288, 0, none⟩ (.slice A287_0 ((rd_T84 l0_2 x21_2).f0).length c287_0)).setCell ⟨gb288, 1, none⟩ (.string ((rd_T84 l0_2 x21_2).f1)))) := ⟨by repeat (first | (with_reducible first | exact HB.out | apply below_alloc | apply pw_below_drewN | apply below_drew1 | refine below_set ?_ GE284.out | refine below_set ?_ GE288.out) | exact HB.out)⟩
            (try clear BK284)
            (try clear BK288)
            (try clear HB)
            generalize ((w15.setCell ⟨gb288, 0, none⟩ (.slice A287_0 ((rd_T84 l0_2 x21_2).f0).length c287_0)).setCell ⟨gb288, 1, none⟩ (.string ((rd_T84 l0_2 x21_2).f1))) = w36 at n0_ n1_ n2_ ⊢
            have BK284 := n0_
            have BK288 := n1_
            have HB := n2_
            clear n0_ n1_ n2_
            have n0_ := Aside0.mk (blk_drew BK284.out)
            have n1_ := Aside0.mk (blk_drew BK288.out)
            have n2_ := Aside0.mk (below_drew1 HB.out)
            clear BK284
            clear BK288
            clear HB
            have BK284 := n0_
            have BK288 := n1_
            have HB := n2_
            clear n0_ n1_ n2_
            refine start_ (n := 40) (S := fun w' => w'.cell? ⟨gb288, 0, none⟩ = some (.slice A287_0 ((rd_T84 l0_2 x21_2).f0).length c287_0) ∧ w'.cell? ⟨gb288, 1, none⟩ = some (.string ((rd_T84 l0_2 x21_2).f1)) ∧ w'.cell? ⟨gb284, 0, none⟩ = some (.int .i64 a0_0) ∧ w'.cell? ⟨gb284, 1, none⟩ = some (.int .i64 a0_1) ∧ w'.cell? ⟨gb284, 2, none⟩ = some (.slice (some ad287) l0_2.length c0_2)) (ds := []) (.replicate 40 false) (by kernel_rfl) rfl rfl ⟨cz_ BK288.out 0 rfl, cz_ BK288.out 1 rfl, cz_ BK284.out 0 rfl, cz_ BK284.out 1 rfl, cz_ BK284.out 2 rfl⟩ (fun hHeld => ?_); refine with_tabW impl_SolverOk.tab7 impl_SolverOk.bits7 (fun HT_ HW_ => ?_)
            generalize w36.drew = w37 at BK284 BK288 HB hHeld ⊢
            refine pu_ 0 (some 26) (bv 40 1) rfl rfl (any_of HT_.out (by kernel_rfl)) (fun _ _ _ h => h) (by rfl) (fun w' => by go_simp; with_reducible rfl) (by simp only [Act.put, eA_, e0_, eS_, i64_w, i32_w]; rfl) ?_
            refine tk_ 1 (some 27) (bv 40 3) rfl rfl (take_ofW HT_.out HW_.out (by kernel_rfl)) (fun _ _ _ h => h) (by rfl) hHeld (fun w' ⟨s0, s1, s2, s3, s4⟩ => by go_simp; with_reducible rfl) (by simp only [Act.put, eA_, e0_, eS_, i64_w, i32_w]; rfl) ?_
            refine pu_ 2 (some 28) (bv 40 7) rfl rfl (any_of HT_.out (by kernel_rfl)) (fun _ _ _ h => h) (by rfl) (fun w' => by go_simp; with_reducible rfl) (by simp only [Act.put, eA_, e0_, eS_, i64_w, i32_w]; rfl) ?_
            refine pu_ 3 (some 29) (bv 40 15) rfl rfl (any_of HT_.out (by kernel_rfl)) (fun _ _ _ h => h) (by rfl) (fun w' => by go_simp; with_reducible rfl) (by simp only [Act.put, eA_, e0_, eS_, i64_w, i32_w]; rfl) ?_
            refine pu_ 4 (some 30) (bv 40 31) rfl rfl (any_of HT_.out (by kernel_rfl)) (fun _ _ _ h => h) (by rfl) (fun w' => by go_simp; with_reducible rfl) (by simp only [Act.put, eA_, e0_, eS_, i64_w, i32_w]; rfl) ?_
            refine pu_ 5 (some 31) (bv 40 63) rfl rfl (any_of HT_.out (by kernel_rfl)) (fun _ _ _ h => h) (by rfl) (fun w' => by go_simp; with_reducible rfl) (by simp only [Act.put, eA_, e0_, eS_, i64_w, i32_w]; rfl) ?_
            refine pu_ 7 (some 33) (bv 40 191) rfl rfl (any_of HT_.out (by kernel_rfl)) (fun _ _ _ h => h) (by rfl) (fun w' => by go_simp; with_reducible rfl) (by simp only [Act.put, eA_, e0_, eS_, i64_w, i32_w]; rfl) ?_
            refine tk_ 6 (some 32) (bv 40 255) rfl rfl (take_ofW HT_.out HW_.out (by kernel_rfl)) (fun _ _ _ h => h) (by rfl) hHeld (fun w' ⟨s0, s1, s2, s3, s4⟩ => by go_simp; with_reducible rfl) (by simp only [Act.put, eA_, e0_, eS_, i64_w, i32_w]; rfl) ?_
            refine tk_ 8 (some 34) (bv 40 511) rfl rfl (take_ofW HT_.out HW_.out (by kernel_rfl)) (fun _ _ _ h => h) (by rfl) hHeld (fun w' ⟨s0, s1, s2, s3, s4⟩ => by go_simp; with_reducible rfl) (by simp only [Act.put, eA_, e0_, eS_, i64_w, i32_w]; rfl) ?_
            refine one_ (i := 9) (N := some 35) (bv 40 1023) rfl rfl (one_of HT_.out (by kernel_rfl)) (by decide) (fun K hK => ?_)
            refine goes_ Try.func19 (by kernel_rfl) rfl #[.slice A287_0 ((rd_T84 l0_2 x21_2).f0).length c287_0, .int .i64 a0_0] (by rfl) rfl rfl (by (try simp only [List.map_toArray, List.map_cons, List.map_nil]); first | done | rfl | (simp only [List.length_drop, List.length_take]; rfl)) ?_
            with_reducible refine (impl_RowOk.calls k2 _ _ ((rd_T84 l0_2 x21_2).f0) a0_0 false _ ?side1 ?side2 A21.out).mono ?_
            (case side1 => exact gC (Kd.C_below HR287_0.out HB.out))
            (case side2 => exact HC287_0.out)
            rintro e w' ⟨rfl, ⟨nd, rfl⟩⟩
            refine ⟨_, rfl, ?_⟩
            refine hK.out _ _ ⟨cz_ BK288.out 0 rfl, cz_ BK288.out 1 rfl, cz_ BK284.out 0 rfl, cz_ BK284.out 1 rfl, cz_ BK284.out 2 rfl⟩ (fun hHeld => ?_)
            clear hK K
            refine norm_ (a' := ?_) ?_ ?_
            rotate_left
            ·show Act.put _ (some 35) _ = _
             simp only [Act.put, eA_, e0_, eS_, i64_w, i32_w]
             rfl
            refine pu_ 10 (some 36) (bv 40 2047) rfl rfl (any_of HT_.out (by kernel_rfl)) (fun _ _ _ h => h) (by rfl) (fun w' => by go_simp; with_reducible rfl) (by simp only [Act.put, eA_, e0_, eS_, i64_w, i32_w]; rfl) ?_
            refine pu_ 11 (some 37) (bv 40 4095) rfl rfl (any_of HT_.out (by kernel_rfl)) (fun _ _ _ h => h) (by rfl) (fun w' => by go_simp; with_reducible rfl) (by simp only [Act.put, eA_, e0_, eS_, i64_w, i32_w]; rfl) ?_
            refine pu_ 12 (some 38) (bv 40 8191) rfl rfl (any_of HT_.out (by kernel_rfl)) (fun _ _ _ h => h) (by rfl) (fun w' => by go_simp; with_reducible rfl) (by simp only [Act.put, eA_, e0_, eS_, i64_w, i32_w]; rfl) ?_
            refine sk_ 6 [13, 14, 15, 16, 17, 18] [39, 40, 41, 42, 43, 44] (bv 40 524287) rfl (skB_of HT_.out (by kernel_rfl)) (by kernel_rfl) (fun _ _ _ _ _ h => h) (by simp only [putU, Act.put, eA_, e0_, eS_]; rfl) ?_
            refine pu_ 19 (some 45) (bv 40 1048575) rfl rfl (any_of HT_.out (by kernel_rfl)) (fun _ _ _ h => h) (by rfl) (fun w' => by go_simp; with_reducible rfl) (by simp only [Act.put, eA_, e0_, eS_, i64_w, i32_w]; rfl) ?_
            refine pu_ 20 (some 46) (bv 40 2097151) rfl rfl (any_of HT_.out (by kernel_rfl)) (fun _ _ _ h => h) (by rfl) (fun w' => by go_simp; with_reducible rfl) (by simp only [Act.put, eA_, e0_, eS_, i64_w, i32_w]; rfl) ?_
            refine sk_ 18 [21, 22, 23, 24, 25, 26, 27, 28, 29, 30, 31, 32, 33, 34, 35, 36, 37, 38] [47, 48, 49, 50, 51, 52, 53, 54, 55, 56, 57, 58, 59, 60, 61, 62, 63, 64] (bv 40 549755813887) rfl (skB_of HT_.out (by kernel_rfl)) (by kernel_rfl) (fun _ _ _ _ _ h => h) (by simp only [putU, Act.put, eA_, e0_, eS_]; rfl) ?_
            refine pu_ 39 (some 65) (bv 40 1099511627775) rfl rfl (any_of HT_.out (by kernel_rfl)) (fun _ _ _ h => h) (by rfl) (fun w' => by go_simp; with_reducible rfl) (by simp only [Act.put, eA_, e0_, eS_, i64_w, i32_w]; rfl) ?_
            refine done_ (done_of HT_.out (by kernel_rfl)) ?_
            try go_wp2
            go_meet
            case rel => exact ⟨_, (true), (by first | rfl | (simp; done) | (simp [*]; done) | (simp [wrap64]; done)), H', ⟨by have := HJ1.out; have := HK2.out; first | omega | exact Nat.le_refl _⟩, ⟨by (with_reducible repeat (first | refine blk_drewN ?_ _ | refine blk_drew ?_ | refine blk_alloc ?_ _)); exact BK284.out⟩, ⟨by (with_reducible repeat (first | refine blk_drewN ?_ _ | refine blk_drew ?_ | refine blk_alloc ?_ _)); exact BK288.out⟩, ⟨by repeat (first | (with_reducible first | exact HB.out | apply below_alloc | apply pw_below_drewN | apply below_drew1 | refine below_set ?_ GE284.out | refine below_set ?_ GE288.out) | exact HB.out)⟩⟩
         case rest =>
          clear HC14
          try clear c1
          try clear c2
          try clear p2
          try clear c19
          try clear c22
          try clear c23
          try clear c23b0
          try clear c23b1
          try clear c28
          obtain ⟨kq, x65_13, rfl, HA, HJ13, BK284, BK288, HB⟩ := hcut
          cases kq with
          | zero => exact absurd HA.out (by simp [impl_SolverOk.j2])
          | succ kj13 =>
           have H := HA.out
           clear HA
           simp only [impl_SolverOk.j2] at H
           by_cases c38 : x65_13 = true
           ·subst c38
            have H1 : (some false) = some r := by rw [if_pos rfl] at H; exact H
            clear H
            have H := H1
            clear H1
            obtain rfl := Option.some.inj H
            go_wp2
            go_ret
            exact ⟨by first | rfl | (simp [errW_none, errW_some] <;> rfl) | (simp [*, errW_none, errW_some] <;> rfl), by repeat (first | (with_reducible first | exact HB.out | apply below_alloc | apply pw_below_drewN | apply below_drew1 | refine below_set ?_ GE284.out | refine below_set ?_ GE288.out) | exact HB.out)⟩
           ·replace c38 := Bool.eq_false_iff.mpr c38
            subst c38
            have H1 : (if 0 < (((rd_T84 l0_2 x21_2).f0).length : Int) then (if 0 ≤ (rd ((rd_T84 l0_2 x21_2).f0) 0) then (impl_SolverOk.l0 kj13 (Go.bits .or .u32 x3_2 (shl .u32 1 (rd ((rd_T84 l0_2 x21_2).f0) 0))) l0_2 (l0_2.length : Int) (wrap64 (x21_2 + 1)) a0_0 a0_1 l0_2) else (none)) else (none)) = some r := by rw [if_neg (show ¬ (false = true) by decide)] at H; exact H
            clear H
            have H := H1
            clear H1
            by_cases c39 : 0 < (((rd_T84 l0_2 x21_2).f0).length : Int)
            ·rw [if_pos c39] at H
             have c39b0 : decide (0 < (((rd_T84 l0_2 x21_2).f0).length : Int)) = true := decide_eq_true c39
             have c39b1 : decide (0 < ((rd_T84 l0_2 x21_2).f0).length) = true := decide_eq_true (by omega)
             clear c39
             by_cases c40 : 0 ≤ (rd ((rd_T84 l0_2 x21_2).f0) 0)
             ·rw [if_pos c40] at H
              have c40b0 := eq_true c40
              have c40b1 : decide (0 ≤ (rd ((rd_T84 l0_2 x21_2).f0) 0)) = true := decide_eq_true c40
              clear c40
              obtain ⟨ji41, hji41⟩ : ∃ j_ : Int, (shl .u32 1 (rd ((rd_T84 l0_2 x21_2).f0) 0)) = j_ := ⟨_, rfl⟩
              replace H : (impl_SolverOk.l0 kj13 (Go.bits .or .u32 x3_2 (ji41)) l0_2 (l0_2.length : Int) (wrap64 (x21_2 + 1)) a0_0 a0_1 l0_2) = some r := by first | (rw [hji41] at H; exact H) | (simp only [hji41] at H ⊢; exact H)
              have hji41_ : (IntKind.u32.wrap (1 * 2 ^ min (rd ((rd_T84 l0_2 x21_2).f0) 0).toNat 32)) = ji41 := hji41
              have hji41z : (rd ((rd_T84 l0_2 x21_2).f0) 0) ≤ 32 → (IntKind.u32.wrap (1 * 2 ^ (rd ((rd_T84 l0_2 x21_2).f0) 0).toNat)) = ji41 := shl_small hji41
              have hji41u : (IntKind.u32.wrap (2 ^ min (rd ((rd_T84 l0_2 x21_2).f0) 0).toNat 32)) = ji41 := by have h_ := hji41_; rw [Int.one_mul] at h_; exact h_
              have hji41v : (rd ((rd_T84 l0_2 x21_2).f0) 0) ≤ 32 → (IntKind.u32.wrap (2 ^ (rd ((rd_T84 l0_2 x21_2).f0) 0).toNat)) = ji41 := fun hle_ => by have h_ := hji41z hle_; rw [Int.one_mul] at h_; exact h_
              have H' := Aside0.mk H
              clear H
              have hnb42 := NB288_284.out
              have hnc42 := NB284_288.out
              have hcz43_0 := cz_ BK288.out 0 rfl
              have hcz43_1 := cz_ BK288.out 1 rfl
              have hfz43_0 := blk_frozen BK288.out 0
              have hfz43_1 := blk_frozen BK288.out 1
              have p293 : 0 ≤ (0 : Int) := (by omega)
              have q293 : 0 < (((rd_T84 l0_2 x21_2).f0).length : Int) := of_decide_eq_true (by first | (with_reducible assumption) | assumption)
              obtain ⟨ad293, e293, hx293_0⟩ := Kd.at_int HR287_0.out 0 p293 q293
              cases e293
              have qi293 : (0 < ((rd_T84 l0_2 x21_2).f0).length) = True := eq_true (by omega)
              (try rw [show ((0 : Int)).toNat = 0 from rfl] at hx293_0)
              (try rw [Addr.add_zero'] at hx293_0)
              replace hx293_0 := (HB.out.cell (World.block_lt_of_cell? w _ hx293_0)).trans hx293_0
              replace p293 := eq_true p293
              replace q293 := eq_true q293
              go_wp2
              go_roundg kj13
              case measure => have := HJ1.out; have := HK2.out; have := HJ13.out; omega
              case rel => exact ⟨(Go.bits .or .u32 x3_2 (ji41)), (wrap64 (x21_2 + 1)), (by first | rfl | (simp; done) | (simp only [← hji41] <;> (first | rfl | simp)) | (simp [*]; done)), (by first | rfl | (simp; done) | (simp [*]; done) | (simp [wrap64]; done)), H', ⟨by have := HJ1.out; have := HK2.out; have := HJ13.out; omega⟩, ⟨by (with_reducible repeat (first | refine blk_drewN ?_ _ | refine blk_drew ?_ | refine blk_alloc ?_ _)); exact BK284.out⟩, ⟨by repeat (first | (with_reducible first | exact HB.out | apply below_alloc | apply pw_below_drewN | apply below_drew1 | refine below_set ?_ GE284.out | refine below_set ?_ GE288.out) | exact HB.out)⟩⟩
             ·rw [if_neg c40] at H
              exact absurd H (by simp)
            ·rw [if_neg c39] at H
             exact absurd H (by simp)
        ·rw [if_neg c13] at H
         exact absurd H (by simp)
       ·rw [if_neg c12] at H
        exact absurd H (by simp)
      ·rw [if_neg c11] at H
       have c11b0 : decide (x21_2 < (l0_2.length : Int)) = false := decide_eq_false c11
       clear c11
       have H' := Aside0.mk H
       clear H
       have hcz44_0 := cz_ BK284.out 0 rfl
       have hcz44_1 := cz_ BK284.out 1 rfl
       have hcz44_2 := cz_ BK284.out 2 rfl
       have hfz44_0 := blk_frozen BK284.out 0
       have hfz44_1 := blk_frozen BK284.out 1
       have hfz44_2 := blk_frozen BK284.out 2
       go_wp2
       go_loopg [77] k2 (fun kq v77 w' => ∃ (x77_3 : Int), v77 = .int .i64 x77_3 ∧ Aside0 (impl_SolverOk.l1 kq x3_2 l0_2 (l0_2.length : Int) x77_3 = some r) ∧ Aside0 (kq ≤ k2) ∧ Aside0 (w'.heap[gb284]? = some (.cells #[.int .i64 a0_0, .int .i64 a0_1, (.slice A0_2 l0_2.length c0_2)] 37 (0, 0))) ∧ Aside0 (Below w.heap.size w w'))
       case atStart => exact ⟨(0), (by first | rfl | (simp; done) | (simp [*]; done) | (simp [wrap64]; done)), H', ⟨Nat.le_refl _⟩, ⟨by (with_reducible repeat (first | refine blk_drewN ?_ _ | refine blk_drew ?_ | refine blk_alloc ?_ _)); exact BK284.out⟩, ⟨by repeat (first | (with_reducible first | exact HB.out | apply below_alloc | apply pw_below_drewN | apply below_drew1 | refine below_set ?_ GE284.out) | exact HB.out)⟩⟩
       case round =>
        clear H'
        try clear c1
        try clear c2
        try clear p2
        try clear q2
        try clear hx2
        try clear qi2
        try clear c3
        try clear c4
        try clear p6
        try clear c11
        try clear c11b0
        try clear c12
        try clear c13
        try clear c19
        try clear c22
        try clear c23
        try clear c23b0
        try clear c23b1
        try clear c28
        try clear p29
        try clear q29
        try clear hx29
        try clear qi29
        try clear c38
        try clear c39
        try clear c39b0
        try clear c39b1
        try clear c40
        try clear c40b0
        try clear c40b1
        try clear c42
        try clear hcz43_0
        try clear hcz43_1
        try clear hcz44_0
        try clear hcz44_1
        try clear hcz44_2
        try clear hfz43_0
        try clear hfz43_1
        try clear hfz44_0
        try clear hfz44_1
        try clear hfz44_2
        try clear hx293_0
        try clear p2
        try clear p293
        try clear q293
        obtain ⟨x77_3, rfl, HA, HK3, BK284, HB⟩ := hrel
        cases gk with
        | zero => exact absurd HA.out (by simp [impl_SolverOk.l1])
        | succ k3 =>
         have H := HA.out
         clear HA
         simp only [impl_SolverOk.l1] at H
         by_cases c45 : x77_3 < (l0_2.length : Int)
         ·rw [if_pos c45] at H
          have c45b0 : decide (x77_3 < (l0_2.length : Int)) = true := decide_eq_true c45
          clear c45
          by_cases c46 : 0 ≤ x77_3
          ·rw [if_pos c46] at H
           have c46b0 : decide (0 ≤ x77_3) = true := decide_eq_true c46
           clear c46
           by_cases c47 : x77_3 < (l0_2.length : Int)
           ·rw [if_pos c47] at H
            have c47b0 : decide (x77_3 < (l0_2.length : Int)) = true := decide_eq_true c47
            clear c47
            by_cases c48 : 1 ≤ (((rd_T84 l0_2 x77_3).f0).length : Int)
            ·rw [if_pos c48] at H
             have c48b0 := eq_true c48
             have c48b1 : decide (1 ≤ (((rd_T84 l0_2 x77_3).f0).length : Int)) = true := decide_eq_true c48
             clear c48
             replace H := bI_ H
             obtain ⟨t297, A490, H⟩ := H
             replace H : (if (Go.bits .and .u32 t297 x3_2) = 0 then (impl_SolverOk.l1 k3 x3_2 l0_2 (l0_2.length : Int) (wrap64 (x77_3 + 1))) else (some false)) = some r := H
             have A49 := Aside0.mk A490
             clear A490
             by_cases c50 : (Go.bits .and .u32 t297 x3_2) = 0
             ·rw [if_pos c50] at H
              have c50b0 : ((Go.bits .and .u32 t297 x3_2) == 0) = true := beq_iff_eq.mpr c50
              have c50b1 : ((Go.bits .and .u32 t297 x3_2) != 0) = false := bne_eq_false_iff_eq.mpr c50
              clear c50
              have H' := Aside0.mk H
              clear H
              have p294 : 0 ≤ (x77_3 : Int) := of_decide_eq_true (by first | (with_reducible assumption) | assumption)
              have q294 : x77_3 < (l0_2.length : Int) := of_decide_eq_true (by first | (with_reducible assumption) | assumption)
              obtain ⟨ad294, A294_0, c294_0, e294, hx294_0, hx294_1, hl294_0, hi294_0⟩ := at_T84 HR0_2.out x77_3 p294 q294
              cases e294
              replace hx294_0 := (HB.out.cell (World.block_lt_of_cell? w _ hx294_0)).trans hx294_0
              replace hx294_1 := (HB.out.cell (World.block_lt_of_cell? w _ hx294_1)).trans hx294_1
              have HR294_0 := Aside0.mk hi294_0
              have HC294_0 := Aside0.mk hl294_0
              clear hi294_0 hl294_0
              replace p294 := eq_true p294
              replace q294 := eq_true q294
              go_wp2_with (first | ((with_reducible refine gate_dst (N := 7) rfl ?_); (try (refine gate_guard (by rfl) ?_; dsimp only)); refine box_event ?hg (N := 7) ?hd (cs := #[.slice none 0 0, .string (⟨#[]⟩ : ByteArray)]) (t := 84) ?hr ?_; (case hd => rfl); (case hg => rfl); (case hr => first | (go_simp; done) | (go_simp; rfl)); intro gb295 hg w51 hbox hb; have n0_ := Aside0.mk (blk_below (g := gb284) (o := .cells #[.int .i64 a0_0, .int .i64 a0_1, .slice (some ad294) l0_2.length c0_2] 37 (0, 0)) (by (with_reducible repeat (first | refine blk_drewN ?_ _ | refine blk_drew ?_ | refine blk_alloc ?_ _)); exact BK284.out) hb); have n1_ := Aside0.mk (below_step (by repeat (first | (with_reducible first | exact HB.out | apply below_alloc | apply pw_below_drewN | apply below_drew1 | refine below_set ?_ GE284.out) | exact HB.out)) hb); have n2_ := Aside0.mk (hbox); have n3_ := Aside0.mk ((by rw [hg]; exact (below_size (by repeat (first | (with_reducible first | exact HB.out | apply below_alloc | apply pw_below_drewN | apply below_drew1 | refine below_set ?_ GE284.out) | exact HB.out))) : w.heap.size ≤ gb295)); have n4_ := Aside0.mk ((by rw [hg]; exact (below_size (by repeat (first | (with_reducible first | exact HB.out | apply below_alloc | apply pw_below_drewN | apply below_drew1 | refine below_set ?_ GE284.out) | exact HB.out))) : w.heap.size ≤ gb295)); have n5_ := Aside0.mk ((by rw [hg]; exact Nat.ne_of_lt (blk_lt (g := gb284) (o := .cells #[.int .i64 a0_0, .int .i64 a0_1, .slice (some ad294) l0_2.length c0_2] 37 (0, 0)) (by (with_reducible repeat (first | refine blk_drewN ?_ _ | refine blk_drew ?_ | refine blk_alloc ?_ _)); exact BK284.out)) : gb284 ≠ gb295)); have n6_ := Aside0.mk ((by rw [hg]; exact Nat.ne_of_gt (blk_lt (g := gb284) (o := .cells #[.int .i64 a0_0, .int .i64 a0_1, .slice (some ad294) l0_2.length c0_2] 37 (0, 0)) (by (with_reducible repeat (first | refine blk_drewN ?_ _ | refine blk_drew ?_ | refine blk_alloc ?_ _)); exact BK284.out)) : gb295 ≠ gb284)); clear BK284; clear HB; have BK284 := n0_; have HB := n1_; have BK295 := n2_; have GW295 := n3_; have GE295 := n4_; have NB284_295 := n5_; have NB295_284 := n6_; clear n0_ n1_ n2_ n3_ n4_ n5_ n6_; clear hb hbox hg; have hnb52 := NB295_284.out; have hnc52 := NB284_295.out; have hcz53_0 : w51.cell? ⟨gb295, 0, none⟩ = some (.slice none 0 0) := (blk_cell BK295.out 0).trans rfl; have hcz53_1 : w51.cell? ⟨gb295, 1, none⟩ = some (.string (⟨#[]⟩ : ByteArray)) := (blk_cell BK295.out 1).trans rfl; have hfz53_0 := blk_frozen BK295.out 0; have hfz53_1 := blk_frozen BK295.out 1; obtain ⟨i054, hi054, _, hsz54, _⟩ := info_parts info3; obtain ⟨A54, hcut54, hA54, hC54⟩ := print_drop_of (P := Try.prog) (Value.int .i64) 0 23 3 .i64 Try.underlying23 hi054 hsz54 A294_0 c294_0 ((rd_T84 l0_2 x77_3).f0) 1 (by omega) (of_decide_eq_true (by first | (with_reducible assumption) | assumption)) HC294_0.out; have HR296 := Aside0.mk (Kd.C_of_reads (h1 := fun _ => rfl) (hA54 _ (Kd.reads_of_C HR294_0.out))); have HC296 := Aside0.mk hC54; clear hA54 hC54 hi054 hsz54) | ((with_reducible refine gate_callee (f := 64) rfl ?_); refine goesL_ (some 84) rfl rfl Try.func64 (by kernel_rfl) rfl #[.slice A54 (((rd_T84 l0_2 x77_3).f0).drop 1).length (c294_0 - 1)] rfl (by (try simp only [List.map_toArray, List.map_cons, List.map_nil]); first | done | (rw [show (((rd_T84 l0_2 x77_3).f0).drop 1).length = (((rd_T84 l0_2 x77_3).f0).length - 1) from List.length_drop] <;> rfl) | rfl | (simp only [List.length_drop, List.length_take]; rfl)) ?_; (with_reducible refine (impl_mask.calls k3 _ _ (((rd_T84 l0_2 x77_3).f0).drop 1) t297 _ ?side1 ?side2 A49.out).mono ?_); (case side1 => exact Kd.C_below HR296.out (by repeat (first | (with_reducible first | exact HB.out | apply below_alloc | apply pw_below_drewN | apply below_drew1 | refine below_set ?_ GE284.out | refine below_set ?_ GE295.out) | exact HB.out))); (case side2 => exact HC296.out); rintro e w' ⟨rfl, ⟨nd, rfl⟩⟩; refine ⟨_, rfl, ?_⟩))
              go_roundg k3
              case measure => have := HJ1.out; have := HK2.out; have := HK3.out; omega
              case rel => exact ⟨(wrap64 (x77_3 + 1)), (by first | rfl | (simp; done) | (simp [*]; done) | (simp [wrap64]; done)), H', ⟨by have := HJ1.out; have := HK2.out; have := HK3.out; omega⟩, ⟨by (with_reducible repeat (first | refine blk_drewN ?_ _ | refine blk_drew ?_ | refine blk_alloc ?_ _)); refine blk_far ?_ NB284_295.out _; (with_reducible repeat (first | refine blk_drewN ?_ _ | refine blk_drew ?_ | refine blk_alloc ?_ _)); refine blk_far ?_ NB284_295.out _; (with_reducible repeat (first | refine blk_drewN ?_ _ | refine blk_drew ?_ | refine blk_alloc ?_ _)); exact BK284.out⟩, ⟨by repeat (first | (with_reducible first | exact HB.out | apply below_alloc | apply pw_below_drewN | apply below_drew1 | refine below_set ?_ GE284.out | refine below_set ?_ GE295.out) | exact HB.out)⟩⟩
             ·rw [if_neg c50] at H
              have c50b0 : ((Go.bits .and .u32 t297 x3_2) == 0) = false := beq_eq_false_iff_ne.mpr c50
              have c50b1 : ((Go.bits .and .u32 t297 x3_2) != 0) = true := bne_iff_ne.mpr c50
              obtain rfl := Option.some.inj H
              have p294 : 0 ≤ (x77_3 : Int) := of_decide_eq_true (by first | (with_reducible assumption) | assumption)
              have q294 : x77_3 < (l0_2.length : Int) := of_decide_eq_true (by first | (with_reducible assumption) | assumption)
              obtain ⟨ad294, A294_0, c294_0, e294, hx294_0, hx294_1, hl294_0, hi294_0⟩ := at_T84 HR0_2.out x77_3 p294 q294
              cases e294
              replace hx294_0 := (HB.out.cell (World.block_lt_of_cell? w _ hx294_0)).trans hx294_0
              replace hx294_1 := (HB.out.cell (World.block_lt_of_cell? w _ hx294_1)).trans hx294_1
              have HR294_0 := Aside0.mk hi294_0
              have HC294_0 := Aside0.mk hl294_0
              clear hi294_0 hl294_0
              replace p294 := eq_true p294
              replace q294 := eq_true q294
              go_wp2_with (first | ((with_reducible refine gate_dst (N := 7) rfl ?_); (try (refine gate_guard (by rfl) ?_; dsimp only)); refine box_event ?hg (N := 7) ?hd (cs := #[.slice none 0 0, .string (⟨#[]⟩ : ByteArray)]) (t := 84) ?hr ?_; (case hd => rfl); (case hg => rfl); (case hr => first | (go_simp; done) | (go_simp; rfl)); intro gb295 hg w55 hbox hb; have n0_ := Aside0.mk (blk_below (g := gb284) (o := .cells #[.int .i64 a0_0, .int .i64 a0_1, .slice (some ad294) l0_2.length c0_2] 37 (0, 0)) (by (with_reducible repeat (first | refine blk_drewN ?_ _ | refine blk_drew ?_ | refine blk_alloc ?_ _)); exact BK284.out) hb); have n1_ := Aside0.mk (below_step (by repeat (first | (with_reducible first | exact HB.out | apply below_alloc | apply pw_below_drewN | apply below_drew1 | refine below_set ?_ GE284.out) | exact HB.out)) hb); have n2_ := Aside0.mk (hbox); have n3_ := Aside0.mk ((by rw [hg]; exact (below_size (by repeat (first | (with_reducible first | exact HB.out | apply below_alloc | apply pw_below_drewN | apply below_drew1 | refine below_set ?_ GE284.out) | exact HB.out))) : w.heap.size ≤ gb295)); have n4_ := Aside0.mk ((by rw [hg]; exact (below_size (by repeat (first | (with_reducible first | exact HB.out | apply below_alloc | apply pw_below_drewN | apply below_drew1 | refine below_set ?_ GE284.out) | exact HB.out))) : w.heap.size ≤ gb295)); have n5_ := Aside0.mk ((by rw [hg]; exact Nat.ne_of_lt (blk_lt (g := gb284) (o := .cells #[.int .i64 a0_0, .int .i64 a0_1, .slice (some ad294) l0_2.length c0_2] 37 (0, 0)) (by (with_reducible repeat (first | refine blk_drewN ?_ _ | refine blk_drew ?_ | refine blk_alloc ?_ _)); exact BK284.out)) : gb284 ≠ gb295)); have n6_ := Aside0.mk ((by rw [hg]; exact Nat.ne_of_gt (blk_lt (g := gb284) (o := .cells #[.int .i64 a0_0, .int .i64 a0_1, .slice (some ad294) l0_2.length c0_2] 37 (0, 0)) (by (with_reducible repeat (first | refine blk_drewN ?_ _ | refine blk_drew ?_ | refine blk_alloc ?_ _)); exact BK284.out)) : gb295 ≠ gb284)); clear BK284; clear HB; have BK284 := n0_; have HB := n1_; have BK295 := n2_; have GW295 := n3_; have GE295 := n4_; have NB284_295 := n5_; have NB295_284 := n6_; clear n0_ n1_ n2_ n3_ n4_ n5_ n6_; clear hb hbox hg; have hnb56 := NB295_284.out; have hnc56 := NB284_295.out; have hcz57_0 : w55.cell? ⟨gb295, 0, none⟩ = some (.slice none 0 0) := (blk_cell BK295.out 0).trans rfl; have hcz57_1 : w55.cell? ⟨gb295, 1, none⟩ = some (.string (⟨#[]⟩ : ByteArray)) := (blk_cell BK295.out 1).trans rfl; have hfz57_0 := blk_frozen BK295.out 0; have hfz57_1 := blk_frozen BK295.out 1; obtain ⟨i058, hi058, _, hsz58, _⟩ := info_parts info3; obtain ⟨A58, hcut58, hA58, hC58⟩ := print_drop_of (P := Try.prog) (Value.int .i64) 0 23 3 .i64 Try.underlying23 hi058 hsz58 A294_0 c294_0 ((rd_T84 l0_2 x77_3).f0) 1 (by omega) (of_decide_eq_true (by first | (with_reducible assumption) | assumption)) HC294_0.out; have HR296 := Aside0.mk (Kd.C_of_reads (h1 := fun _ => rfl) (hA58 _ (Kd.reads_of_C HR294_0.out))); have HC296 := Aside0.mk hC58; clear hA58 hC58 hi058 hsz58) | ((with_reducible refine gate_callee (f := 64) rfl ?_); refine goesL_ (some 84) rfl rfl Try.func64 (by kernel_rfl) rfl #[.slice A58 (((rd_T84 l0_2 x77_3).f0).drop 1).length (c294_0 - 1)] rfl (by (try simp only [List.map_toArray, List.map_cons, List.map_nil]); first | done | (rw [show (((rd_T84 l0_2 x77_3).f0).drop 1).length = (((rd_T84 l0_2 x77_3).f0).length - 1) from List.length_drop] <;> rfl) | rfl | (simp only [List.length_drop, List.length_take]; rfl)) ?_; (with_reducible refine (impl_mask.calls k3 _ _ (((rd_T84 l0_2 x77_3).f0).drop 1) t297 _ ?side1 ?side2 A49.out).mono ?_); (case side1 => exact Kd.C_below HR296.out (by repeat (first | (with_reducible first | exact HB.out | apply below_alloc | apply pw_below_drewN | apply below_drew1 | refine below_set ?_ GE284.out | refine below_set ?_ GE295.out) | exact HB.out))); (case side2 => exact HC296.out); rintro e w' ⟨rfl, ⟨nd, rfl⟩⟩; refine ⟨_, rfl, ?_⟩))
              go_ret
              exact ⟨by first | rfl | (simp [errW_none, errW_some] <;> rfl) | (simp [*, errW_none, errW_some] <;> rfl), by repeat (first | (with_reducible first | exact HB.out | apply below_alloc | apply pw_below_drewN | apply below_drew1 | refine below_set ?_ GE284.out | refine below_set ?_ GE295.out) | exact HB.out)⟩
            ·rw [if_neg c48] at H
             exact absurd H (by simp)
           ·rw [if_neg c47] at H
            exact absurd H (by simp)
          ·rw [if_neg c46] at H
           exact absurd H (by simp)
         ·rw [if_neg c45] at H
          have c45b0 : decide (x77_3 < (l0_2.length : Int)) = false := decide_eq_false c45
          clear c45
          obtain rfl := Option.some.inj H
          go_wp2
          go_ret
          exact ⟨by first | rfl | (simp [errW_none, errW_some] <;> rfl) | (simp [*, errW_none, errW_some] <;> rfl), by repeat (first | (with_reducible first | exact HB.out | apply below_alloc | apply pw_below_drewN | apply below_drew1 | refine below_set ?_ GE284.out) | exact HB.out)⟩

end Go.Proofs.Ytaeeickboakmgaa.X
