/- Printed for this claim by the session's program (the kit's printer, several laws in one place): the functions that the law reaches, each as a plain Lean function, and the proof that the Go code comes to its answers. Conditions: none beside those that each theorem states. -/
import Derived.Test.YtaeeickboakmgaaXx0
import Derived.Test.YtaeeickboakmgaaXx35
import Derived.Test.YtaeeickboakmgaaXx37
import Derived.Test.YtaeeickboakmgaaXx43
import Derived.Test.YtaeeickboakmgaaXx44
import Derived.Test.YtaeeickboakmgaaWAll
namespace Go.Proofs.Ytaeeickboakmgaa.X
open Go.RowKit Go.Proofs.YtaeeickboakmgaaW.PrintWords Go.Proofs.YtaeeickboakmgaaW.PrintLast Go.Proofs.YtaeeickboakmgaaW.PrintStep Go.Proofs.YtaeeickboakmgaaW.PrintMore
attribute [local go_sem] max2_int min2_int max_two min_two max_three min_three max_four min_four   -- for this text's walks alone
set_option linter.unusedVariables false
set_option linter.unusedSimpArgs false

/-! ### spec_l6Windows: function 97 -/
def spec_l6Windows.l0 : Nat → Int → Int → Int → Int → List Int → List Int → Int → Int → List (S84) → Option (Int)
 | 0, _, _, _, _, _, _, _, _, _ => none
 | k + 1, x3, x4, x1088000, x1088001, x1088002, x1088003, x1088004, x1088005, x1088006 => if x3 < (x1088002.length : Int) then (if 0 ≤ x3 then (if (rd x1088002 x3) ≤ x4 then (spec_l6Windows.l0 k (wrap64 (x3 + 1)) x4 x1088000 x1088001 x1088002 x1088003 x1088004 x1088005 x1088006) else (some x3)) else (none)) else (some x3)
def spec_l6Windows.f (k : Nat) (a0_0 : Int) (a0_1 : Int) (l0_2 : List Int) (l0_3 : List Int) (a0_4 : Int) (a0_5 : Int) (l0_6 : List (S84)) : Option (Int) := (spec_l3Prefix.f k a0_4 a0_5 l0_6).bind fun t1088 => (spec_l6Windows.l0 k 0 t1088 a0_0 a0_1 l0_2 l0_3 a0_4 a0_5 l0_6)
theorem spec_l6Windows.mono_l : ∀ k, (∀ y0 y1 y2 y3 y4 y5 y6 y7 y8, LeO (spec_l6Windows.l0 k y0 y1 y2 y3 y4 y5 y6 y7 y8) (spec_l6Windows.l0 (k + 1) y0 y1 y2 y3 y4 y5 y6 y7 y8))
 | 0 => fun _ _ _ _ _ _ _ _ _ r h => by simp [spec_l6Windows.l0] at h
 | k + 1 => by
  have ih0 := spec_l6Windows.mono_l k
  ·intro y0 y1 y2 y3 y4 y5 y6 y7 y8
   unfold spec_l6Windows.l0
   repeat' first
   | (with_reducible exact ih0 _ _ _ _ _ _ _ _ _)
   | (with_reducible exact spec_l3Prefix.mono _ _ _ _)
   | (with_reducible exact LeO.refl _)
   | (with_reducible exact LeO.none _)
   | (with_reducible refine LeO.ite ?_ ?_)
   | (with_reducible refine LeO.bind ?_ (fun _ => ?_))
   | exact ih0 _ _ _ _ _ _ _ _ _
   | exact spec_l3Prefix.mono _ _ _ _
   | exact LeO.none _
   | refine LeO.ite ?_ ?_
   | refine LeO.bind ?_ (fun _ => ?_)
theorem spec_l6Windows.mono : ∀ a0 a1 a2 a3 a4 a5 a6 k, LeO (spec_l6Windows.f k a0 a1 a2 a3 a4 a5 a6) (spec_l6Windows.f (k + 1) a0 a1 a2 a3 a4 a5 a6) := by
 intro a0 a1 a2 a3 a4 a5 a6 k
 have ih0 := spec_l6Windows.mono_l k
 unfold spec_l6Windows.f
 repeat' first
  | (with_reducible exact ih0 _ _ _ _ _ _ _ _ _)
  | (with_reducible exact spec_l3Prefix.mono _ _ _ _)
  | (with_reducible exact LeO.refl _)
  | (with_reducible exact LeO.none _)
  | (with_reducible refine LeO.ite ?_ ?_)
  | (with_reducible refine LeO.bind ?_ (fun _ => ?_))
  | exact ih0 _ _ _ _ _ _ _ _ _
  | exact spec_l3Prefix.mono _ _ _ _
  | exact LeO.none _
  | refine LeO.ite ?_ ?_
  | refine LeO.bind ?_ (fun _ => ?_)
set_option maxHeartbeats 8000000 in
set_option maxRecDepth 100000 in
theorem spec_l6Windows.calls (k : Nat) (a0_0 : Int) (a0_1 : Int) (A0_2 : Option Addr) (c0_2 : Nat) (l0_2 : List Int) (A0_3 : Option Addr) (c0_3 : Nat) (l0_3 : List Int) (a0_4 : Int) (a0_5 : Int) (A0_6 : Option Addr) (c0_6 : Nat) (l0_6 : List (S84)) (r : Int) (w : World) (hr0_2 : Kd.C (Kd.int .i64) w A0_2 l0_2.length l0_2) (hc0_2 : l0_2.length ≤ c0_2) (hr0_3 : Kd.C (Kd.int .i64) w A0_3 l0_3.length l0_3) (hc0_3 : l0_3.length ≤ c0_3) (hr0_6 : Kd.C k84 w A0_6 l0_6.length l0_6) (hc0_6 : l0_6.length ≤ c0_6) (h : spec_l6Windows.f k a0_0 a0_1 l0_2 l0_3 a0_4 a0_5 l0_6 = some r) :
 Calls Try.prog 97 #[.agg #[.int .i64 a0_0, .int .i64 a0_1, .slice A0_2 l0_2.length c0_2, .slice A0_3 l0_3.length c0_3, .int .i64 a0_4, .int .i64 a0_5, .slice A0_6 l0_6.length c0_6]] w fun e w' => e = .returned (.int .i64 r) ∧ Below w.heap.size w w' := by
 have hu61 := Try.underlying61
 have hu37 := Try.underlying37
 have HR0_2 := Aside0.mk hr0_2
 have HC0_2 := Aside0.mk hc0_2
 clear hr0_2 hc0_2
 have HR0_3 := Aside0.mk hr0_3
 have HC0_3 := Aside0.mk hc0_3
 clear hr0_3 hc0_3
 have HR0_6 := Aside0.mk hr0_6
 have HC0_6 := Aside0.mk hc0_6
 clear hr0_6 hc0_6
 have HB := Aside0.mk (Below.refl w.heap.size w)
 have H : ((spec_l3Prefix.f k a0_4 a0_5 l0_6).bind fun t1088 => (spec_l6Windows.l0 k 0 t1088 a0_0 a0_1 l0_2 l0_3 a0_4 a0_5 l0_6)) = some r := h
 clear h
 replace H := bI_ H
 obtain ⟨t1088, A20, H⟩ := H
 replace H : (spec_l6Windows.l0 k 0 t1088 a0_0 a0_1 l0_2 l0_3 a0_4 a0_5 l0_6) = some r := H
 have A2 := Aside0.mk A20
 clear A20
 have H' := Aside0.mk H
 clear H
 go_enter Try.func97, Try.ntmps97
 go_wp2_with (first | ((with_reducible refine gate_dst (N := 1) rfl ?_); refine box_event ?hg (N := 1) ?hd (cs := #[.int .i64 a0_0, .int .i64 a0_1, .slice A0_2 l0_2.length c0_2, .slice A0_3 l0_3.length c0_3, .int .i64 a0_4, .int .i64 a0_5, .slice A0_6 l0_6.length c0_6]) (t := 61) ?hr ?_; (case hd => rfl); (case hg => rfl); (case hr => first | (go_simp; done) | (go_simp; rfl)); intro gb1087 hg w3 hbox hb; have n0_ := Aside0.mk (below_step (gB HB.out) hb); have n1_ := Aside0.mk (hbox); have n2_ := Aside0.mk ((by rw [hg]; exact (below_size (gB HB.out)) : w.heap.size ≤ gb1087)); have n3_ := n2_; clear HB; have HB := n0_; have BK1087 := n1_; have GW1087 := n2_; have GE1087 := n3_; clear n0_ n1_ n2_ n3_; clear hb hbox hg; have hcz4_0 := cz_ BK1087.out 0 rfl; have hcz4_1 := cz_ BK1087.out 1 rfl; have hcz4_2 := cz_ BK1087.out 2 rfl; have hcz4_3 := cz_ BK1087.out 3 rfl; have hcz4_4 := cz_ BK1087.out 4 rfl; have hcz4_5 := cz_ BK1087.out 5 rfl; have hcz4_6 := cz_ BK1087.out 6 rfl; have hfz4_0 := blk_frozen BK1087.out 0; have hfz4_1 := blk_frozen BK1087.out 1; have hfz4_2 := blk_frozen BK1087.out 2; have hfz4_3 := blk_frozen BK1087.out 3; have hfz4_4 := blk_frozen BK1087.out 4; have hfz4_5 := blk_frozen BK1087.out 5; have hfz4_6 := blk_frozen BK1087.out 6) | ((with_reducible refine gate_callee (f := 86) rfl ?_); refine goesL_ (some 7) rfl rfl Try.func86 (by kernel_rfl) rfl #[.agg #[.int .i64 a0_4, .int .i64 a0_5, .slice A0_6 l0_6.length c0_6]] rfl (by (try simp only [List.map_toArray, List.map_cons, List.map_nil]); first | done | rfl | (simp only [List.length_drop, List.length_take]; rfl)) ?_; (with_reducible refine (spec_l3Prefix.calls k a0_4 a0_5 _ _ l0_6 t1088 _ ?side1 ?side2 A2.out).mono ?_); (case side1 => exact gC (Kd.C_below HR0_6.out HB.out)); (case side2 => exact HC0_6.out); rintro e w5 ⟨rfl, hb⟩; refine ⟨_, rfl, ?_⟩; have n0_ := Aside0.mk (blk_below (gK BK1087.out) hb); have n1_ := Aside0.mk (below_step (gB HB.out) hb); clear BK1087; clear HB; have BK1087 := n0_; have HB := n1_; clear n0_ n1_; (try clear hb); (try clear hb2); (try clear hk); (try clear hi)))
 go_loopg [3] k (fun kq v3 w' => ∃ (x3_1 : Int), v3 = .int .i64 x3_1 ∧ Aside0 (spec_l6Windows.l0 kq x3_1 t1088 a0_0 a0_1 l0_2 l0_3 a0_4 a0_5 l0_6 = some r) ∧ Aside0 (kq ≤ k) ∧ Aside0 (w'.heap[gb1087]? = some (.cells #[.int .i64 a0_0, .int .i64 a0_1, (.slice A0_2 l0_2.length c0_2), (.slice A0_3 l0_3.length c0_3), .int .i64 a0_4, .int .i64 a0_5, (.slice A0_6 l0_6.length c0_6)] 61 (0, 0))) ∧ Aside0 (Below w.heap.size w w'))
 case atStart => exact ⟨(0), (by first | rfl | (simp; done) | (simp [*]; done) | (simp [wrap64]; done)), H', ⟨Nat.le_refl _⟩, ⟨by (with_reducible repeat (first | refine blk_drewN ?_ _ | refine blk_drew ?_ | refine blk_alloc ?_ _)); exact BK1087.out⟩, ⟨by repeat (first | (with_reducible first | exact HB.out | apply below_alloc | apply pw_below_drewN | apply below_drew1 | refine below_set ?_ GE1087.out) | exact HB.out)⟩⟩
 case round =>
  clear H'
  try clear p2
  try clear hcz4_0
  try clear hcz4_1
  try clear hcz4_2
  try clear hcz4_3
  try clear hcz4_4
  try clear hcz4_5
  try clear hcz4_6
  try clear hfz4_0
  try clear hfz4_1
  try clear hfz4_2
  try clear hfz4_3
  try clear hfz4_4
  try clear hfz4_5
  try clear hfz4_6
  obtain ⟨x3_1, rfl, HA, HK1, BK1087, HB⟩ := hrel
  cases gk with
  | zero => exact absurd HA.out (by simp [spec_l6Windows.l0])
  | succ k1 =>
   have H := HA.out
   clear HA
   simp only [spec_l6Windows.l0] at H
   by_cases c6 : x3_1 < (l0_2.length : Int)
   ·rw [if_pos c6] at H
    have c6b0 : decide (x3_1 < (l0_2.length : Int)) = true := decide_eq_true c6
    clear c6
    by_cases c7 : 0 ≤ x3_1
    ·rw [if_pos c7] at H
     have c7b0 : decide (0 ≤ x3_1) = true := decide_eq_true c7
     clear c7
     by_cases c8 : (rd l0_2 x3_1) ≤ t1088
     ·rw [if_pos c8] at H
      have c8b0 : decide ((rd l0_2 x3_1) ≤ t1088) = true := decide_eq_true c8
      clear c8
      have H' := Aside0.mk H
      clear H
      have hcz9_0 := cz_ BK1087.out 0 rfl
      have hcz9_1 := cz_ BK1087.out 1 rfl
      have hcz9_2 := cz_ BK1087.out 2 rfl
      have hcz9_3 := cz_ BK1087.out 3 rfl
      have hcz9_4 := cz_ BK1087.out 4 rfl
      have hcz9_5 := cz_ BK1087.out 5 rfl
      have hcz9_6 := cz_ BK1087.out 6 rfl
      have hfz9_0 := blk_frozen BK1087.out 0
      have hfz9_1 := blk_frozen BK1087.out 1
      have hfz9_2 := blk_frozen BK1087.out 2
      have hfz9_3 := blk_frozen BK1087.out 3
      have hfz9_4 := blk_frozen BK1087.out 4
      have hfz9_5 := blk_frozen BK1087.out 5
      have hfz9_6 := blk_frozen BK1087.out 6
      have p1089 : 0 ≤ (x3_1 : Int) := of_decide_eq_true (by first | (with_reducible assumption) | assumption)
      have q1089 : x3_1 < (l0_2.length : Int) := of_decide_eq_true (by first | (with_reducible assumption) | assumption)
      obtain ⟨ad1089, e1089, hx1089_0⟩ := Kd.at_int HR0_2.out x3_1 p1089 q1089
      cases e1089
      replace hx1089_0 := (HB.out.cell (World.block_lt_of_cell? w _ hx1089_0)).trans hx1089_0
      replace p1089 := eq_true p1089
      replace q1089 := eq_true q1089
      go_wp2
      go_roundg k1
      case measure => have := HK1.out; omega
      case rel => exact ⟨(wrap64 (x3_1 + 1)), (by first | rfl | (simp; done) | (simp [*]; done) | (simp [wrap64]; done)), H', ⟨by have := HK1.out; omega⟩, ⟨by (with_reducible repeat (first | refine blk_drewN ?_ _ | refine blk_drew ?_ | refine blk_alloc ?_ _)); exact BK1087.out⟩, ⟨by repeat (first | (with_reducible first | exact HB.out | apply below_alloc | apply pw_below_drewN | apply below_drew1 | refine below_set ?_ GE1087.out) | exact HB.out)⟩⟩
     ·rw [if_neg c8] at H
      have c8b0 : decide ((rd l0_2 x3_1) ≤ t1088) = false := decide_eq_false c8
      clear c8
      obtain rfl := Option.some.inj H
      have hcz10_0 := cz_ BK1087.out 0 rfl
      have hcz10_1 := cz_ BK1087.out 1 rfl
      have hcz10_2 := cz_ BK1087.out 2 rfl
      have hcz10_3 := cz_ BK1087.out 3 rfl
      have hcz10_4 := cz_ BK1087.out 4 rfl
      have hcz10_5 := cz_ BK1087.out 5 rfl
      have hcz10_6 := cz_ BK1087.out 6 rfl
      have hfz10_0 := blk_frozen BK1087.out 0
      have hfz10_1 := blk_frozen BK1087.out 1
      have hfz10_2 := blk_frozen BK1087.out 2
      have hfz10_3 := blk_frozen BK1087.out 3
      have hfz10_4 := blk_frozen BK1087.out 4
      have hfz10_5 := blk_frozen BK1087.out 5
      have hfz10_6 := blk_frozen BK1087.out 6
      have p1089 : 0 ≤ (x3_1 : Int) := of_decide_eq_true (by first | (with_reducible assumption) | assumption)
      have q1089 : x3_1 < (l0_2.length : Int) := of_decide_eq_true (by first | (with_reducible assumption) | assumption)
      obtain ⟨ad1089, e1089, hx1089_0⟩ := Kd.at_int HR0_2.out x3_1 p1089 q1089
      cases e1089
      replace hx1089_0 := (HB.out.cell (World.block_lt_of_cell? w _ hx1089_0)).trans hx1089_0
      replace p1089 := eq_true p1089
      replace q1089 := eq_true q1089
      go_wp2
      go_ret
      exact ⟨by first | rfl | (simp [errW_none, errW_some] <;> rfl) | (simp [*, errW_none, errW_some] <;> rfl), by repeat (first | (with_reducible first | exact HB.out | apply below_alloc | apply pw_below_drewN | apply below_drew1 | refine below_set ?_ GE1087.out) | exact HB.out)⟩
    ·rw [if_neg c7] at H
     exact absurd H (by simp)
   ·rw [if_neg c6] at H
    have c6b0 : decide (x3_1 < (l0_2.length : Int)) = false := decide_eq_false c6
    clear c6
    obtain rfl := Option.some.inj H
    have hcz11_0 := cz_ BK1087.out 0 rfl
    have hcz11_1 := cz_ BK1087.out 1 rfl
    have hcz11_2 := cz_ BK1087.out 2 rfl
    have hcz11_3 := cz_ BK1087.out 3 rfl
    have hcz11_4 := cz_ BK1087.out 4 rfl
    have hcz11_5 := cz_ BK1087.out 5 rfl
    have hcz11_6 := cz_ BK1087.out 6 rfl
    have hfz11_0 := blk_frozen BK1087.out 0
    have hfz11_1 := blk_frozen BK1087.out 1
    have hfz11_2 := blk_frozen BK1087.out 2
    have hfz11_3 := blk_frozen BK1087.out 3
    have hfz11_4 := blk_frozen BK1087.out 4
    have hfz11_5 := blk_frozen BK1087.out 5
    have hfz11_6 := blk_frozen BK1087.out 6
    go_wp2
    go_ret
    exact ⟨by first | rfl | (simp [errW_none, errW_some] <;> rfl) | (simp [*, errW_none, errW_some] <;> rfl), by repeat (first | (with_reducible first | exact HB.out | apply below_alloc | apply pw_below_drewN | apply below_drew1 | refine below_set ?_ GE1087.out) | exact HB.out)⟩

/-! ### spec_GetWindows: function 56 -/
def spec_GetWindows.f (k : Nat) (a0_0 : Int) (a0_1 : Int) (l0_2 : List Int) (l0_3 : List Int) (a0_4 : Int) (a0_5 : Int) (l0_6 : List (S84)) : Option (Int) := (spec_GetOk.f k a0_0 a0_1 l0_2 l0_3 a0_4 a0_5 l0_6).bind fun t1091 => (if t1091 = true then ((spec_l6Windows.f k a0_0 a0_1 l0_2 l0_3 a0_4 a0_5 l0_6).bind fun t1092 => (some t1092)) else (some 0))
theorem spec_GetWindows.mono : ∀ a0 a1 a2 a3 a4 a5 a6 k, LeO (spec_GetWindows.f k a0 a1 a2 a3 a4 a5 a6) (spec_GetWindows.f (k + 1) a0 a1 a2 a3 a4 a5 a6) := by
 intro a0 a1 a2 a3 a4 a5 a6 k
 unfold spec_GetWindows.f
 repeat' first
  | (with_reducible exact spec_GetOk.mono _ _ _ _ _ _ _ _)
  | (with_reducible exact spec_l6Windows.mono _ _ _ _ _ _ _ _)
  | (with_reducible exact LeO.refl _)
  | (with_reducible exact LeO.none _)
  | (with_reducible refine LeO.ite ?_ ?_)
  | (with_reducible refine LeO.bind ?_ (fun _ => ?_))
  | exact spec_GetOk.mono _ _ _ _ _ _ _ _
  | exact spec_l6Windows.mono _ _ _ _ _ _ _ _
  | exact LeO.none _
  | refine LeO.ite ?_ ?_
  | refine LeO.bind ?_ (fun _ => ?_)
set_option maxHeartbeats 8000000 in
set_option maxRecDepth 100000 in
theorem spec_GetWindows.calls (k : Nat) (a0_0 : Int) (a0_1 : Int) (A0_2 : Option Addr) (c0_2 : Nat) (l0_2 : List Int) (A0_3 : Option Addr) (c0_3 : Nat) (l0_3 : List Int) (a0_4 : Int) (a0_5 : Int) (A0_6 : Option Addr) (c0_6 : Nat) (l0_6 : List (S84)) (r : Int) (w : World) (hr0_2 : Kd.C (Kd.int .i64) w A0_2 l0_2.length l0_2) (hc0_2 : l0_2.length ≤ c0_2) (hr0_3 : Kd.C (Kd.int .i64) w A0_3 l0_3.length l0_3) (hc0_3 : l0_3.length ≤ c0_3) (hr0_6 : Kd.C k84 w A0_6 l0_6.length l0_6) (hc0_6 : l0_6.length ≤ c0_6) (h : spec_GetWindows.f k a0_0 a0_1 l0_2 l0_3 a0_4 a0_5 l0_6 = some r) :
 Calls Try.prog 56 #[.agg #[.int .i64 a0_0, .int .i64 a0_1, .slice A0_2 l0_2.length c0_2, .slice A0_3 l0_3.length c0_3, .int .i64 a0_4, .int .i64 a0_5, .slice A0_6 l0_6.length c0_6]] w fun e w' => e = .returned (.int .i64 r) ∧ Below w.heap.size w w' := by
 have hu61 := Try.underlying61
 have HR0_2 := Aside0.mk hr0_2
 have HC0_2 := Aside0.mk hc0_2
 clear hr0_2 hc0_2
 have HR0_3 := Aside0.mk hr0_3
 have HC0_3 := Aside0.mk hc0_3
 clear hr0_3 hc0_3
 have HR0_6 := Aside0.mk hr0_6
 have HC0_6 := Aside0.mk hc0_6
 clear hr0_6 hc0_6
 have HB := Aside0.mk (Below.refl w.heap.size w)
 have H : ((spec_GetOk.f k a0_0 a0_1 l0_2 l0_3 a0_4 a0_5 l0_6).bind fun t1091 => (if t1091 = true then ((spec_l6Windows.f k a0_0 a0_1 l0_2 l0_3 a0_4 a0_5 l0_6).bind fun t1092 => (some t1092)) else (some 0))) = some r := h
 clear h
 replace H := bI_ H
 obtain ⟨t1091, A20, H⟩ := H
 replace H : (if t1091 = true then ((spec_l6Windows.f k a0_0 a0_1 l0_2 l0_3 a0_4 a0_5 l0_6).bind fun t1092 => (some t1092)) else (some 0)) = some r := H
 have A2 := Aside0.mk A20
 clear A20
 by_cases c3 : t1091 = true
 ·subst c3
  have H1 : ((spec_l6Windows.f k a0_0 a0_1 l0_2 l0_3 a0_4 a0_5 l0_6).bind fun t1092 => (some t1092)) = some r := by rw [if_pos rfl] at H; exact H
  clear H
  have H := H1
  clear H1
  replace H := bI_ H
  obtain ⟨t1092, A40, H⟩ := H
  replace H : (some t1092) = some r := H
  have A4 := Aside0.mk A40
  clear A40
  obtain rfl := Option.some.inj H
  go_enter Try.func56, Try.ntmps56
  go_wp2_with (first | ((with_reducible refine gate_dst (N := 1) rfl ?_); refine box_event ?hg (N := 1) ?hd (cs := #[.int .i64 a0_0, .int .i64 a0_1, .slice A0_2 l0_2.length c0_2, .slice A0_3 l0_3.length c0_3, .int .i64 a0_4, .int .i64 a0_5, .slice A0_6 l0_6.length c0_6]) (t := 61) ?hr ?_; (case hd => rfl); (case hg => rfl); (case hr => first | (go_simp; done) | (go_simp; rfl)); intro gb1090 hg w5 hbox hb; have n0_ := Aside0.mk (below_step (gB HB.out) hb); have n1_ := Aside0.mk (hbox); have n2_ := Aside0.mk ((by rw [hg]; exact (below_size (gB HB.out)) : w.heap.size ≤ gb1090)); have n3_ := n2_; clear HB; have HB := n0_; have BK1090 := n1_; have GW1090 := n2_; have GE1090 := n3_; clear n0_ n1_ n2_ n3_; clear hb hbox hg; have hcz6_0 := cz_ BK1090.out 0 rfl; have hcz6_1 := cz_ BK1090.out 1 rfl; have hcz6_2 := cz_ BK1090.out 2 rfl; have hcz6_3 := cz_ BK1090.out 3 rfl; have hcz6_4 := cz_ BK1090.out 4 rfl; have hcz6_5 := cz_ BK1090.out 5 rfl; have hcz6_6 := cz_ BK1090.out 6 rfl; have hfz6_0 := blk_frozen BK1090.out 0; have hfz6_1 := blk_frozen BK1090.out 1; have hfz6_2 := blk_frozen BK1090.out 2; have hfz6_3 := blk_frozen BK1090.out 3; have hfz6_4 := blk_frozen BK1090.out 4; have hfz6_5 := blk_frozen BK1090.out 5; have hfz6_6 := blk_frozen BK1090.out 6) | ((with_reducible refine gate_callee (f := 51) rfl ?_); refine goesL_ (some 4) rfl rfl Try.func51 (by kernel_rfl) rfl #[.agg #[.int .i64 a0_0, .int .i64 a0_1, .slice A0_2 l0_2.length c0_2, .slice A0_3 l0_3.length c0_3, .int .i64 a0_4, .int .i64 a0_5, .slice A0_6 l0_6.length c0_6]] rfl (by (try simp only [List.map_toArray, List.map_cons, List.map_nil]); first | done | rfl | (simp only [List.length_drop, List.length_take]; rfl)) ?_; (with_reducible refine (spec_GetOk.calls k a0_0 a0_1 _ _ l0_2 _ _ l0_3 a0_4 a0_5 _ _ l0_6 true _ ?side1 ?side2 ?side3 ?side4 ?side5 ?side6 A2.out).mono ?_); (case side1 => exact gC (Kd.C_below HR0_2.out HB.out)); (case side2 => exact HC0_2.out); (case side3 => exact gC (Kd.C_below HR0_3.out HB.out)); (case side4 => exact HC0_3.out); (case side5 => exact gC (Kd.C_below HR0_6.out HB.out)); (case side6 => exact HC0_6.out); rintro e w7 ⟨rfl, hb⟩; refine ⟨_, rfl, ?_⟩; have n0_ := Aside0.mk (blk_below (gK BK1090.out) hb); have n1_ := Aside0.mk (below_step (gB HB.out) hb); clear BK1090; clear HB; have BK1090 := n0_; have HB := n1_; clear n0_ n1_; (try clear hb); (try clear hb2); (try clear hk); (try clear hi); have hcz8_0 := cz_ BK1090.out 0 rfl; have hcz8_1 := cz_ BK1090.out 1 rfl; have hcz8_2 := cz_ BK1090.out 2 rfl; have hcz8_3 := cz_ BK1090.out 3 rfl; have hcz8_4 := cz_ BK1090.out 4 rfl; have hcz8_5 := cz_ BK1090.out 5 rfl; have hcz8_6 := cz_ BK1090.out 6 rfl; have hfz8_0 := blk_frozen BK1090.out 0; have hfz8_1 := blk_frozen BK1090.out 1; have hfz8_2 := blk_frozen BK1090.out 2; have hfz8_3 := blk_frozen BK1090.out 3; have hfz8_4 := blk_frozen BK1090.out 4; have hfz8_5 := blk_frozen BK1090.out 5; have hfz8_6 := blk_frozen BK1090.out 6) | ((with_reducible refine gate_callee (f := 97) rfl ?_); refine goesL_ (some 7) rfl rfl Try.func97 (by kernel_rfl) rfl #[.agg #[.int .i64 a0_0, .int .i64 a0_1, .slice A0_2 l0_2.length c0_2, .slice A0_3 l0_3.length c0_3, .int .i64 a0_4, .int .i64 a0_5, .slice A0_6 l0_6.length c0_6]] rfl (by (try simp only [List.map_toArray, List.map_cons, List.map_nil]); first | done | rfl | (simp only [List.length_drop, List.length_take]; rfl)) ?_; (with_reducible refine (spec_l6Windows.calls k a0_0 a0_1 _ _ l0_2 _ _ l0_3 a0_4 a0_5 _ _ l0_6 t1092 _ ?side1 ?side2 ?side3 ?side4 ?side5 ?side6 A4.out).mono ?_); (case side1 => exact gC (Kd.C_below HR0_2.out HB.out)); (case side2 => exact HC0_2.out); (case side3 => exact gC (Kd.C_below HR0_3.out HB.out)); (case side4 => exact HC0_3.out); (case side5 => exact gC (Kd.C_below HR0_6.out HB.out)); (case side6 => exact HC0_6.out); rintro e w9 ⟨rfl, hb⟩; refine ⟨_, rfl, ?_⟩; have n0_ := Aside0.mk (blk_below (gK BK1090.out) hb); have n1_ := Aside0.mk (below_step (gB HB.out) hb); clear BK1090; clear HB; have BK1090 := n0_; have HB := n1_; clear n0_ n1_; (try clear hb); (try clear hb2); (try clear hk); (try clear hi)))
  go_ret
  exact ⟨by first | rfl | (simp [errW_none, errW_some] <;> rfl) | (simp [*, errW_none, errW_some] <;> rfl), by repeat (first | (with_reducible first | exact HB.out | apply below_alloc | apply pw_below_drewN | apply below_drew1 | refine below_set ?_ GE1090.out) | exact HB.out)⟩
 ·replace c3 := Bool.eq_false_iff.mpr c3
  subst c3
  have H1 : (some 0) = some r := by rw [if_neg (show ¬ (false = true) by decide)] at H; exact H
  clear H
  have H := H1
  clear H1
  obtain rfl := Option.some.inj H
  go_enter Try.func56, Try.ntmps56
  go_wp2_with (first | ((with_reducible refine gate_dst (N := 1) rfl ?_); refine box_event ?hg (N := 1) ?hd (cs := #[.int .i64 a0_0, .int .i64 a0_1, .slice A0_2 l0_2.length c0_2, .slice A0_3 l0_3.length c0_3, .int .i64 a0_4, .int .i64 a0_5, .slice A0_6 l0_6.length c0_6]) (t := 61) ?hr ?_; (case hd => rfl); (case hg => rfl); (case hr => first | (go_simp; done) | (go_simp; rfl)); intro gb1090 hg w10 hbox hb; have n0_ := Aside0.mk (below_step (gB HB.out) hb); have n1_ := Aside0.mk (hbox); have n2_ := Aside0.mk ((by rw [hg]; exact (below_size (gB HB.out)) : w.heap.size ≤ gb1090)); have n3_ := n2_; clear HB; have HB := n0_; have BK1090 := n1_; have GW1090 := n2_; have GE1090 := n3_; clear n0_ n1_ n2_ n3_; clear hb hbox hg; have hcz11_0 := cz_ BK1090.out 0 rfl; have hcz11_1 := cz_ BK1090.out 1 rfl; have hcz11_2 := cz_ BK1090.out 2 rfl; have hcz11_3 := cz_ BK1090.out 3 rfl; have hcz11_4 := cz_ BK1090.out 4 rfl; have hcz11_5 := cz_ BK1090.out 5 rfl; have hcz11_6 := cz_ BK1090.out 6 rfl; have hfz11_0 := blk_frozen BK1090.out 0; have hfz11_1 := blk_frozen BK1090.out 1; have hfz11_2 := blk_frozen BK1090.out 2; have hfz11_3 := blk_frozen BK1090.out 3; have hfz11_4 := blk_frozen BK1090.out 4; have hfz11_5 := blk_frozen BK1090.out 5; have hfz11_6 := blk_frozen BK1090.out 6) | ((with_reducible refine gate_callee (f := 51) rfl ?_); refine goesL_ (some 4) rfl rfl Try.func51 (by kernel_rfl) rfl #[.agg #[.int .i64 a0_0, .int .i64 a0_1, .slice A0_2 l0_2.length c0_2, .slice A0_3 l0_3.length c0_3, .int .i64 a0_4, .int .i64 a0_5, .slice A0_6 l0_6.length c0_6]] rfl (by (try simp only [List.map_toArray, List.map_cons, List.map_nil]); first | done | rfl | (simp only [List.length_drop, List.length_take]; rfl)) ?_; (with_reducible refine (spec_GetOk.calls k a0_0 a0_1 _ _ l0_2 _ _ l0_3 a0_4 a0_5 _ _ l0_6 false _ ?side1 ?side2 ?side3 ?side4 ?side5 ?side6 A2.out).mono ?_); (case side1 => exact gC (Kd.C_below HR0_2.out HB.out)); (case side2 => exact HC0_2.out); (case side3 => exact gC (Kd.C_below HR0_3.out HB.out)); (case side4 => exact HC0_3.out); (case side5 => exact gC (Kd.C_below HR0_6.out HB.out)); (case side6 => exact HC0_6.out); rintro e w12 ⟨rfl, hb⟩; refine ⟨_, rfl, ?_⟩; have n0_ := Aside0.mk (blk_below (gK BK1090.out) hb); have n1_ := Aside0.mk (below_step (gB HB.out) hb); clear BK1090; clear HB; have BK1090 := n0_; have HB := n1_; clear n0_ n1_; (try clear hb); (try clear hb2); (try clear hk); (try clear hi)))
  go_ret
  exact ⟨by first | rfl | (simp [errW_none, errW_some] <;> rfl) | (simp [*, errW_none, errW_some] <;> rfl), by repeat (first | (with_reducible first | exact HB.out | apply below_alloc | apply pw_below_drewN | apply below_drew1 | refine below_set ?_ GE1090.out) | exact HB.out)⟩

/-! ### impl_Getting_windows: function 98 -/
def impl_Getting_windows.l0 : Nat → Int → Int → Int → List Int → List Int → Int → Int → List (S84) → Option (Int)
 | 0, _, _, _, _, _, _, _, _ => none
 | k + 1, x3, x1094000, x1094001, x1094002, x1094003, x1094004, x1094005, x1094006 => if x3 < (x1094002.length : Int) then (if 0 ≤ x3 then ((impl_Solver_prefix.f k x1094004 x1094005 x1094006).bind fun t1095 => (if (rd x1094002 x3) ≤ t1095 then (impl_Getting_windows.l0 k (wrap64 (x3 + 1)) x1094000 x1094001 x1094002 x1094003 x1094004 x1094005 x1094006) else (some x3))) else (none)) else (some x3)
def impl_Getting_windows.f (k : Nat) (a0_0 : Int) (a0_1 : Int) (l0_2 : List Int) (l0_3 : List Int) (a0_4 : Int) (a0_5 : Int) (l0_6 : List (S84)) : Option (Int) := impl_Getting_windows.l0 k 0 a0_0 a0_1 l0_2 l0_3 a0_4 a0_5 l0_6
theorem impl_Getting_windows.mono_l : ∀ k, (∀ y0 y1 y2 y3 y4 y5 y6 y7, LeO (impl_Getting_windows.l0 k y0 y1 y2 y3 y4 y5 y6 y7) (impl_Getting_windows.l0 (k + 1) y0 y1 y2 y3 y4 y5 y6 y7))
 | 0 => fun _ _ _ _ _ _ _ _ r h => by simp [impl_Getting_windows.l0] at h
 | k + 1 => by
  have ih0 := impl_Getting_windows.mono_l k
  ·intro y0 y1 y2 y3 y4 y5 y6 y7
   unfold impl_Getting_windows.l0
   repeat' first
   | (with_reducible exact ih0 _ _ _ _ _ _ _ _)
   | (with_reducible exact impl_Solver_prefix.mono _ _ _ _)
   | (with_reducible exact LeO.refl _)
   | (with_reducible exact LeO.none _)
   | (with_reducible refine LeO.ite ?_ ?_)
   | (with_reducible refine LeO.bind ?_ (fun _ => ?_))
   | exact ih0 _ _ _ _ _ _ _ _
   | exact impl_Solver_prefix.mono _ _ _ _
   | exact LeO.none _
   | refine LeO.ite ?_ ?_
   | refine LeO.bind ?_ (fun _ => ?_)
theorem impl_Getting_windows.mono : ∀ a0 a1 a2 a3 a4 a5 a6 k, LeO (impl_Getting_windows.f k a0 a1 a2 a3 a4 a5 a6) (impl_Getting_windows.f (k + 1) a0 a1 a2 a3 a4 a5 a6) := by
 intro a0 a1 a2 a3 a4 a5 a6 k
 have ih0 := impl_Getting_windows.mono_l k
 unfold impl_Getting_windows.f
 repeat' first
  | (with_reducible exact ih0 _ _ _ _ _ _ _ _)
  | (with_reducible exact impl_Solver_prefix.mono _ _ _ _)
  | (with_reducible exact LeO.refl _)
  | (with_reducible exact LeO.none _)
  | (with_reducible refine LeO.ite ?_ ?_)
  | (with_reducible refine LeO.bind ?_ (fun _ => ?_))
  | exact ih0 _ _ _ _ _ _ _ _
  | exact impl_Solver_prefix.mono _ _ _ _
  | exact LeO.none _
  | refine LeO.ite ?_ ?_
  | refine LeO.bind ?_ (fun _ => ?_)
def impl_Getting_windows.T2 : Bool × List (List Nat × List Nat) := (true, [([], []), ([], []), ([1], [1]), ([2], [2]), ([3], [3]), ([0, 4], [0, 4]), ([5], [5]), ([6], [6]), ([7, 6], [6, 7]), ([8, 6], [6, 8]), ([6], [6]), ([9, 10, 6], [6, 9, 10]), ([11, 6], [6, 11]), ([6], [6]), ([13, 6], [6, 13]), ([14, 6, 6], [6, 14]), ([12, 15, 6], [6, 12, 15]), ([6, 16], [6, 16])])
def impl_Getting_windows.B2 : List Nat := [0, 0, 2, 6, 14, 31, 63, 127, 255, 511, 127, 2047, 4095, 127, 8319, 24703, 65535, 131071]
theorem impl_Getting_windows.tab2 : rtab .any (opsOf Try.f98 2) = impl_Getting_windows.T2 := by kernel_rfl
theorem impl_Getting_windows.bits2 : waitsOk impl_Getting_windows.T2.2 impl_Getting_windows.B2 = true := by kernel_rfl
set_option maxHeartbeats 8000000 in
set_option maxRecDepth 100000 in
theorem impl_Getting_windows.calls (k : Nat) (a0_0 : Int) (a0_1 : Int) (A0_2 : Option Addr) (c0_2 : Nat) (l0_2 : List Int) (A0_3 : Option Addr) (c0_3 : Nat) (l0_3 : List Int) (a0_4 : Int) (a0_5 : Int) (A0_6 : Option Addr) (c0_6 : Nat) (l0_6 : List (S84)) (r : Int) (w : World) (hr0_2 : Kd.C (Kd.int .i64) w A0_2 l0_2.length l0_2) (hc0_2 : l0_2.length ≤ c0_2) (hr0_3 : Kd.C (Kd.int .i64) w A0_3 l0_3.length l0_3) (hc0_3 : l0_3.length ≤ c0_3) (hr0_6 : Kd.C k84 w A0_6 l0_6.length l0_6) (hc0_6 : l0_6.length ≤ c0_6) (h : impl_Getting_windows.f k a0_0 a0_1 l0_2 l0_3 a0_4 a0_5 l0_6 = some r) :
 Calls Try.prog 98 #[.agg #[.int .i64 a0_0, .int .i64 a0_1, .slice A0_2 l0_2.length c0_2, .slice A0_3 l0_3.length c0_3, .int .i64 a0_4, .int .i64 a0_5, .slice A0_6 l0_6.length c0_6]] w fun e w' => e = .returned (.int .i64 r) ∧ Below w.heap.size w w' := by
 have hu61 := Try.underlying61
 have hu37 := Try.underlying37
 have HR0_2 := Aside0.mk hr0_2
 have HC0_2 := Aside0.mk hc0_2
 clear hr0_2 hc0_2
 have HR0_3 := Aside0.mk hr0_3
 have HC0_3 := Aside0.mk hc0_3
 clear hr0_3 hc0_3
 have HR0_6 := Aside0.mk hr0_6
 have HC0_6 := Aside0.mk hc0_6
 clear hr0_6 hc0_6
 have HB := Aside0.mk (Below.refl w.heap.size w)
 have H : (impl_Getting_windows.l0 k 0 a0_0 a0_1 l0_2 l0_3 a0_4 a0_5 l0_6) = some r := h
 clear h
 have H' := Aside0.mk H
 clear H
 go_enter Try.func98, Try.ntmps98
 go_wp2_with (first | ((with_reducible refine gate_dst (N := 1) rfl ?_); refine box_event ?hg (N := 1) ?hd (cs := #[.int .i64 a0_0, .int .i64 a0_1, .slice A0_2 l0_2.length c0_2, .slice A0_3 l0_3.length c0_3, .int .i64 a0_4, .int .i64 a0_5, .slice A0_6 l0_6.length c0_6]) (t := 61) ?hr ?_; (case hd => rfl); (case hg => rfl); (case hr => first | (go_simp; done) | (go_simp; rfl)); intro gb1093 hg w2 hbox hb; have n0_ := Aside0.mk (below_step (gB HB.out) hb); have n1_ := Aside0.mk (hbox); have n2_ := Aside0.mk ((by rw [hg]; exact (below_size (gB HB.out)) : w.heap.size ≤ gb1093)); have n3_ := n2_; clear HB; have HB := n0_; have BK1093 := n1_; have GW1093 := n2_; have GE1093 := n3_; clear n0_ n1_ n2_ n3_; clear hb hbox hg))
 go_loopg [3] k (fun kq v3 w' => ∃ (x3_1 : Int), v3 = .int .i64 x3_1 ∧ Aside0 (impl_Getting_windows.l0 kq x3_1 a0_0 a0_1 l0_2 l0_3 a0_4 a0_5 l0_6 = some r) ∧ Aside0 (kq ≤ k) ∧ Aside0 (w'.heap[gb1093]? = some (.cells #[.int .i64 a0_0, .int .i64 a0_1, (.slice A0_2 l0_2.length c0_2), (.slice A0_3 l0_3.length c0_3), .int .i64 a0_4, .int .i64 a0_5, (.slice A0_6 l0_6.length c0_6)] 61 (0, 0))) ∧ Aside0 (Below w.heap.size w w'))
 case atStart => exact ⟨(0), (by first | rfl | (simp; done) | (simp [*]; done) | (simp [wrap64]; done)), H', ⟨Nat.le_refl _⟩, ⟨by (with_reducible repeat (first | refine blk_drewN ?_ _ | refine blk_drew ?_ | refine blk_alloc ?_ _)); exact BK1093.out⟩, ⟨by repeat (first | (with_reducible first | exact HB.out | apply below_alloc | apply pw_below_drewN | apply below_drew1 | refine below_set ?_ GE1093.out) | exact HB.out)⟩⟩
 case round =>
  clear H'
  try clear p2
  obtain ⟨x3_1, rfl, HA, HK1, BK1093, HB⟩ := hrel
  cases gk with
  | zero => exact absurd HA.out (by simp [impl_Getting_windows.l0])
  | succ k1 =>
   have H := HA.out
   clear HA
   simp only [impl_Getting_windows.l0] at H
   by_cases c3 : x3_1 < (l0_2.length : Int)
   ·rw [if_pos c3] at H
    have c3b0 : decide (x3_1 < (l0_2.length : Int)) = true := decide_eq_true c3
    clear c3
    by_cases c4 : 0 ≤ x3_1
    ·rw [if_pos c4] at H
     have c4b0 : decide (0 ≤ x3_1) = true := decide_eq_true c4
     clear c4
     replace H := bI_ H
     obtain ⟨t1095, A50, H⟩ := H
     replace H : (if (rd l0_2 x3_1) ≤ t1095 then (impl_Getting_windows.l0 k1 (wrap64 (x3_1 + 1)) a0_0 a0_1 l0_2 l0_3 a0_4 a0_5 l0_6) else (some x3_1)) = some r := H
     have A5 := Aside0.mk A50
     clear A50
     by_cases c6 : (rd l0_2 x3_1) ≤ t1095
     ·rw [if_pos c6] at H
      have c6b0 : decide ((rd l0_2 x3_1) ≤ t1095) = true := decide_eq_true c6
      clear c6
      have H' := Aside0.mk H
      clear H
      try go_wp2
      have n0_ := Aside0.mk (blk_drew BK1093.out)
      have n1_ := Aside0.mk (below_drew1 HB.out)
      clear BK1093
      clear HB
      have BK1093 := n0_
      have HB := n1_
      clear n0_ n1_
      have p1094 : 0 ≤ (x3_1 : Int) := of_decide_eq_true (by first | (with_reducible assumption) | assumption)
      have q1094 : x3_1 < (l0_2.length : Int) := of_decide_eq_true (by first | (with_reducible assumption) | assumption)
      obtain ⟨ad1094, e1094, hx1094_0⟩ := Kd.at_int HR0_2.out x3_1 p1094 q1094
      have hw1094_0 := hx1094_0
      cases e1094
      replace hx1094_0 := (HB.out.cell (World.block_lt_of_cell? w _ hx1094_0)).trans hx1094_0
      replace p1094 := eq_true p1094
      replace q1094 := eq_true q1094
      refine start_ (n := 18) (S := fun w' => w'.cell? ⟨gb1093, 0, none⟩ = some (.int .i64 a0_0) ∧ w'.cell? ⟨gb1093, 1, none⟩ = some (.int .i64 a0_1) ∧ w'.cell? ⟨gb1093, 2, none⟩ = some (.slice (some ad1094) l0_2.length c0_2) ∧ w'.cell? ⟨gb1093, 3, none⟩ = some (.slice A0_3 l0_3.length c0_3) ∧ w'.cell? ⟨gb1093, 4, none⟩ = some (.int .i64 a0_4) ∧ w'.cell? ⟨gb1093, 5, none⟩ = some (.int .i64 a0_5) ∧ w'.cell? ⟨gb1093, 6, none⟩ = some (.slice A0_6 l0_6.length c0_6) ∧ w'.cell? (ad1094.add (x3_1).toNat) = some (.int .i64 (rd l0_2 x3_1))) (ds := []) (.replicate 18 false) (by kernel_rfl) rfl rfl ⟨cz_ BK1093.out 0 rfl, cz_ BK1093.out 1 rfl, cz_ BK1093.out 2 rfl, cz_ BK1093.out 3 rfl, cz_ BK1093.out 4 rfl, cz_ BK1093.out 5 rfl, cz_ BK1093.out 6 rfl, ((HB.out.cell (World.block_lt_of_cell? w _ hw1094_0)).trans hw1094_0)⟩ (fun hHeld => ?_); refine with_tabW impl_Getting_windows.tab2 impl_Getting_windows.bits2 (fun HT_ HW_ => ?_)
      generalize wr.drew = w7 at BK1093 HB hx1094_0 hHeld ⊢
      refine pu_ 0 (some 4) (bv 18 1) rfl rfl (any_of HT_.out (by kernel_rfl)) (fun _ _ _ h => h) (by rfl) (fun w' => by go_simp; with_reducible rfl) (by simp only [Act.put, eA_, e0_, eS_, i64_w, i32_w]; rfl) ?_
      refine pu_ 1 (some 5) (bv 18 3) rfl rfl (any_of HT_.out (by kernel_rfl)) (fun _ _ _ h => h) (by rfl) (fun w' => by go_simp; with_reducible rfl) (by simp only [Act.put, eA_, e0_, eS_, i64_w, i32_w]; rfl) ?_
      refine pu_ 2 (some 6) (bv 18 7) rfl rfl (any_of HT_.out (by kernel_rfl)) (fun _ _ _ h => h) (by rfl) (fun w' => by go_simp; with_reducible rfl) (by simp only [Act.put, eA_, e0_, eS_, i64_w, i32_w]; rfl) ?_
      refine tk_ 3 (some 7) (bv 18 15) rfl rfl (take_ofW HT_.out HW_.out (by kernel_rfl)) (fun _ _ _ h => h) (by rfl) hHeld (fun w' ⟨s0, s1, s2, s3, s4, s5, s6, s7⟩ => by go_simp; with_reducible rfl) (by simp only [Act.put, eA_, e0_, eS_, i64_w, i32_w]; rfl) ?_
      refine pu_ 4 (some 8) (bv 18 31) rfl rfl (any_of HT_.out (by kernel_rfl)) (fun _ _ _ h => h) (by rfl) (fun w' => by go_simp; with_reducible rfl) (by simp only [Act.put, eA_, e0_, eS_, i64_w, i32_w]; rfl) ?_
      refine pu_ 5 (some 9) (bv 18 63) rfl rfl (any_of HT_.out (by kernel_rfl)) (fun _ _ _ h => h) (by rfl) (fun w' => by go_simp; with_reducible rfl) (by simp only [Act.put, eA_, e0_, eS_, i64_w, i32_w]; rfl) ?_
      refine pu_ 6 (some 10) (bv 18 127) rfl rfl (any_of HT_.out (by kernel_rfl)) (fun _ _ _ h => h) (by rfl) (fun w' => by go_simp; with_reducible rfl) (by simp only [Act.put, eA_, e0_, eS_, i64_w, i32_w]; rfl) ?_
      refine pu_ 7 (some 11) (bv 18 255) rfl rfl (any_of HT_.out (by kernel_rfl)) (fun _ _ _ h => h) (by rfl) (fun w' => by go_simp; with_reducible rfl) (by simp only [Act.put, eA_, e0_, eS_, i64_w, i32_w]; rfl) ?_
      refine pu_ 8 (some 12) (bv 18 511) rfl rfl (any_of HT_.out (by kernel_rfl)) (fun _ _ _ h => h) (by rfl) (fun w' => by go_simp; with_reducible rfl) (by simp only [Act.put, eA_, e0_, eS_, i64_w, i32_w]; rfl) ?_
      refine pu_ 10 (some 14) (bv 18 1535) rfl rfl (any_of HT_.out (by kernel_rfl)) (fun _ _ _ h => h) (by rfl) (fun w' => by go_simp; with_reducible rfl) (by simp only [Act.put, eA_, e0_, eS_, i64_w, i32_w]; rfl) ?_
      refine pu_ 13 (some 17) (bv 18 9727) rfl rfl (any_of HT_.out (by kernel_rfl)) (fun _ _ _ h => h) (by rfl) (fun w' => by go_simp; with_reducible rfl) (by simp only [Act.put, eA_, e0_, eS_, i64_w, i32_w]; rfl) ?_
      refine tk_ 9 (some 13) (bv 18 10239) rfl rfl (take_ofW HT_.out HW_.out (by kernel_rfl)) (fun _ _ _ h => h) (by rfl) hHeld (fun w' ⟨s0, s1, s2, s3, s4, s5, s6, s7⟩ => by go_simp; with_reducible rfl) (by simp only [Act.put, eA_, e0_, eS_, i64_w, i32_w]; rfl) ?_
      refine pu_ 11 (some 15) (bv 18 12287) rfl rfl (any_of HT_.out (by kernel_rfl)) (fun _ _ _ h => h) (by rfl) (fun w' => by go_simp; with_reducible rfl) (by simp only [Act.put, eA_, e0_, eS_, i64_w, i32_w]; rfl) ?_
      refine tk_ 12 (some 16) (bv 18 16383) rfl rfl (take_ofW HT_.out HW_.out (by kernel_rfl)) (fun _ _ _ h => h) (by rfl) hHeld (fun w' ⟨s0, s1, s2, s3, s4, s5, s6, s7⟩ => by go_simp; with_reducible rfl) (by simp only [Act.put, eA_, e0_, eS_, i64_w, i32_w]; rfl) ?_
      refine tk_ 14 (some 18) (bv 18 32767) rfl rfl (take_ofW HT_.out HW_.out (by kernel_rfl)) (fun _ _ _ h => h) (by rfl) hHeld (fun w' ⟨s0, s1, s2, s3, s4, s5, s6, s7⟩ => by go_simp; with_reducible rfl) (by simp only [Act.put, eA_, e0_, eS_, i64_w, i32_w]; rfl) ?_
      refine one_ (i := 15) (N := some 19) (bv 18 65535) rfl rfl (one_of HT_.out (by kernel_rfl)) (by decide) (fun K hK => ?_)
      refine goes_ Try.func87 (by kernel_rfl) rfl #[.agg #[.int .i64 a0_4, .int .i64 a0_5, .slice A0_6 l0_6.length c0_6]] (by rfl) rfl rfl (by (try simp only [List.map_toArray, List.map_cons, List.map_nil]); first | done | rfl | (simp only [List.length_drop, List.length_take]; rfl)) ?_
      with_reducible refine (impl_Solver_prefix.calls k1 a0_4 a0_5 _ _ l0_6 t1095 _ ?side1 ?side2 A5.out).mono ?_
      (case side1 => exact gC (Kd.C_below HR0_6.out HB.out))
      (case side2 => exact HC0_6.out)
      rintro e w8 ⟨rfl, hb⟩
      refine ⟨_, rfl, ?_⟩
      have n0_ := Aside0.mk (blk_below (gK BK1093.out) hb)
      have n1_ := Aside0.mk (below_step (gB HB.out) hb)
      clear BK1093
      clear HB
      have BK1093 := n0_
      have HB := n1_
      clear n0_ n1_
      (try clear hb)
      (try clear hb2)
      (try clear hk)
      (try clear hi)
      refine hK.out _ _ ⟨cz_ BK1093.out 0 rfl, cz_ BK1093.out 1 rfl, cz_ BK1093.out 2 rfl, cz_ BK1093.out 3 rfl, cz_ BK1093.out 4 rfl, cz_ BK1093.out 5 rfl, cz_ BK1093.out 6 rfl, ((HB.out.cell (World.block_lt_of_cell? w _ hw1094_0)).trans hw1094_0)⟩ (fun hHeld => ?_)
      clear hK K
      refine norm_ (a' := ?_) ?_ ?_
      rotate_left
      ·show Act.put _ (some 19) _ = _
       simp only [Act.put, eA_, e0_, eS_, i64_w, i32_w]
       rfl
      refine pu_ 16 (some 20) (bv 18 131071) rfl rfl (any_of HT_.out (by kernel_rfl)) (fun _ _ _ h => h) (by rfl) (fun w' => by go_simp; with_reducible rfl) (by simp only [Act.put, eA_, e0_, eS_, i64_w, i32_w]; rfl) ?_
      refine pu_ 17 (some 21) (bv 18 262143) rfl rfl (any_of HT_.out (by kernel_rfl)) (fun _ _ _ h => h) (by rfl) (fun w' => by go_simp; with_reducible rfl) (by simp only [Act.put, eA_, e0_, eS_, i64_w, i32_w]; rfl) ?_
      refine done_ (done_of HT_.out (by kernel_rfl)) ?_
      try go_wp2
      go_roundg k1
      case measure => have := HK1.out; omega
      case rel => exact ⟨(wrap64 (x3_1 + 1)), (by first | rfl | (simp; done) | (simp [*]; done) | (simp [wrap64]; done)), H', ⟨by have := HK1.out; omega⟩, ⟨by (with_reducible repeat (first | refine blk_drewN ?_ _ | refine blk_drew ?_ | refine blk_alloc ?_ _)); exact BK1093.out⟩, ⟨by repeat (first | (with_reducible first | exact HB.out | apply below_alloc | apply pw_below_drewN | apply below_drew1 | refine below_set ?_ GE1093.out) | exact HB.out)⟩⟩
     ·rw [if_neg c6] at H
      have c6b0 : decide ((rd l0_2 x3_1) ≤ t1095) = false := decide_eq_false c6
      clear c6
      obtain rfl := Option.some.inj H
      try go_wp2
      have n0_ := Aside0.mk (blk_drew BK1093.out)
      have n1_ := Aside0.mk (below_drew1 HB.out)
      clear BK1093
      clear HB
      have BK1093 := n0_
      have HB := n1_
      clear n0_ n1_
      have p1094 : 0 ≤ (x3_1 : Int) := of_decide_eq_true (by first | (with_reducible assumption) | assumption)
      have q1094 : x3_1 < (l0_2.length : Int) := of_decide_eq_true (by first | (with_reducible assumption) | assumption)
      obtain ⟨ad1094, e1094, hx1094_0⟩ := Kd.at_int HR0_2.out x3_1 p1094 q1094
      have hw1094_0 := hx1094_0
      cases e1094
      replace hx1094_0 := (HB.out.cell (World.block_lt_of_cell? w _ hx1094_0)).trans hx1094_0
      replace p1094 := eq_true p1094
      replace q1094 := eq_true q1094
      refine start_ (n := 18) (S := fun w' => w'.cell? ⟨gb1093, 0, none⟩ = some (.int .i64 a0_0) ∧ w'.cell? ⟨gb1093, 1, none⟩ = some (.int .i64 a0_1) ∧ w'.cell? ⟨gb1093, 2, none⟩ = some (.slice (some ad1094) l0_2.length c0_2) ∧ w'.cell? ⟨gb1093, 3, none⟩ = some (.slice A0_3 l0_3.length c0_3) ∧ w'.cell? ⟨gb1093, 4, none⟩ = some (.int .i64 a0_4) ∧ w'.cell? ⟨gb1093, 5, none⟩ = some (.int .i64 a0_5) ∧ w'.cell? ⟨gb1093, 6, none⟩ = some (.slice A0_6 l0_6.length c0_6) ∧ w'.cell? (ad1094.add (x3_1).toNat) = some (.int .i64 (rd l0_2 x3_1))) (ds := []) (.replicate 18 false) (by kernel_rfl) rfl rfl ⟨cz_ BK1093.out 0 rfl, cz_ BK1093.out 1 rfl, cz_ BK1093.out 2 rfl, cz_ BK1093.out 3 rfl, cz_ BK1093.out 4 rfl, cz_ BK1093.out 5 rfl, cz_ BK1093.out 6 rfl, ((HB.out.cell (World.block_lt_of_cell? w _ hw1094_0)).trans hw1094_0)⟩ (fun hHeld => ?_); refine with_tabW impl_Getting_windows.tab2 impl_Getting_windows.bits2 (fun HT_ HW_ => ?_)
      generalize wr.drew = w9 at BK1093 HB hx1094_0 hHeld ⊢
      refine pu_ 0 (some 4) (bv 18 1) rfl rfl (any_of HT_.out (by kernel_rfl)) (fun _ _ _ h => h) (by rfl) (fun w' => by go_simp; with_reducible rfl) (by simp only [Act.put, eA_, e0_, eS_, i64_w, i32_w]; rfl) ?_
      refine pu_ 1 (some 5) (bv 18 3) rfl rfl (any_of HT_.out (by kernel_rfl)) (fun _ _ _ h => h) (by rfl) (fun w' => by go_simp; with_reducible rfl) (by simp only [Act.put, eA_, e0_, eS_, i64_w, i32_w]; rfl) ?_
      refine pu_ 2 (some 6) (bv 18 7) rfl rfl (any_of HT_.out (by kernel_rfl)) (fun _ _ _ h => h) (by rfl) (fun w' => by go_simp; with_reducible rfl) (by simp only [Act.put, eA_, e0_, eS_, i64_w, i32_w]; rfl) ?_
      refine tk_ 3 (some 7) (bv 18 15) rfl rfl (take_ofW HT_.out HW_.out (by kernel_rfl)) (fun _ _ _ h => h) (by rfl) hHeld (fun w' ⟨s0, s1, s2, s3, s4, s5, s6, s7⟩ => by go_simp; with_reducible rfl) (by simp only [Act.put, eA_, e0_, eS_, i64_w, i32_w]; rfl) ?_
      refine pu_ 4 (some 8) (bv 18 31) rfl rfl (any_of HT_.out (by kernel_rfl)) (fun _ _ _ h => h) (by rfl) (fun w' => by go_simp; with_reducible rfl) (by simp only [Act.put, eA_, e0_, eS_, i64_w, i32_w]; rfl) ?_
      refine pu_ 5 (some 9) (bv 18 63) rfl rfl (any_of HT_.out (by kernel_rfl)) (fun _ _ _ h => h) (by rfl) (fun w' => by go_simp; with_reducible rfl) (by simp only [Act.put, eA_, e0_, eS_, i64_w, i32_w]; rfl) ?_
      refine pu_ 6 (some 10) (bv 18 127) rfl rfl (any_of HT_.out (by kernel_rfl)) (fun _ _ _ h => h) (by rfl) (fun w' => by go_simp; with_reducible rfl) (by simp only [Act.put, eA_, e0_, eS_, i64_w, i32_w]; rfl) ?_
      refine pu_ 7 (some 11) (bv 18 255) rfl rfl (any_of HT_.out (by kernel_rfl)) (fun _ _ _ h => h) (by rfl) (fun w' => by go_simp; with_reducible rfl) (by simp only [Act.put, eA_, e0_, eS_, i64_w, i32_w]; rfl) ?_
      refine pu_ 8 (some 12) (bv 18 511) rfl rfl (any_of HT_.out (by kernel_rfl)) (fun _ _ _ h => h) (by rfl) (fun w' => by go_simp; with_reducible rfl) (by simp only [Act.put, eA_, e0_, eS_, i64_w, i32_w]; rfl) ?_
      refine pu_ 10 (some 14) (bv 18 1535) rfl rfl (any_of HT_.out (by kernel_rfl)) (fun _ _ _ h => h) (by rfl) (fun w' => by go_simp; with_reducible rfl) (by simp only [Act.put, eA_, e0_, eS_, i64_w, i32_w]; rfl) ?_
      refine pu_ 13 (some 17) (bv 18 9727) rfl rfl (any_of HT_.out (by kernel_rfl)) (fun _ _ _ h => h) (by rfl) (fun w' => by go_simp; with_reducible rfl) (by simp only [Act.put, eA_, e0_, eS_, i64_w, i32_w]; rfl) ?_
      refine tk_ 9 (some 13) (bv 18 10239) rfl rfl (take_ofW HT_.out HW_.out (by kernel_rfl)) (fun _ _ _ h => h) (by rfl) hHeld (fun w' ⟨s0, s1, s2, s3, s4, s5, s6, s7⟩ => by go_simp; with_reducible rfl) (by simp only [Act.put, eA_, e0_, eS_, i64_w, i32_w]; rfl) ?_
      refine pu_ 11 (some 15) (bv 18 12287) rfl rfl (any_of HT_.out (by kernel_rfl)) (fun _ _ _ h => h) (by rfl) (fun w' => by go_simp; with_reducible rfl) (by simp only [Act.put, eA_, e0_, eS_, i64_w, i32_w]; rfl) ?_
      refine tk_ 12 (some 16) (bv 18 16383) rfl rfl (take_ofW HT_.out HW_.out (by kernel_rfl)) (fun _ _ _ h => h) (by rfl) hHeld (fun w' ⟨s0, s1, s2, s3, s4, s5, s6, s7⟩ => by go_simp; with_reducible rfl) (by simp only [Act.put, eA_, e0_, eS_, i64_w, i32_w]; rfl) ?_
      refine tk_ 14 (some 18) (bv 18 32767) rfl rfl (take_ofW HT_.out HW_.out (by kernel_rfl)) (fun _ _ _ h => h) (by rfl) hHeld (fun w' ⟨s0, s1, s2, s3, s4, s5, s6, s7⟩ => by go_simp; with_reducible rfl) (by simp only [Act.put, eA_, e0_, eS_, i64_w, i32_w]; rfl) ?_
      refine one_ (i := 15) (N := some 19) (bv 18 65535) rfl rfl (one_of HT_.out (by kernel_rfl)) (by decide) (fun K hK => ?_)
      refine goes_ Try.func87 (by kernel_rfl) rfl #[.agg #[.int .i64 a0_4, .int .i64 a0_5, .slice A0_6 l0_6.length c0_6]] (by rfl) rfl rfl (by (try simp only [List.map_toArray, List.map_cons, List.map_nil]); first | done | rfl | (simp only [List.length_drop, List.length_take]; rfl)) ?_
      with_reducible refine (impl_Solver_prefix.calls k1 a0_4 a0_5 _ _ l0_6 t1095 _ ?side1 ?side2 A5.out).mono ?_
      (case side1 => exact gC (Kd.C_below HR0_6.out HB.out))
      (case side2 => exact HC0_6.out)
      rintro e w10 ⟨rfl, hb⟩
      refine ⟨_, rfl, ?_⟩
      have n0_ := Aside0.mk (blk_below (gK BK1093.out) hb)
      have n1_ := Aside0.mk (below_step (gB HB.out) hb)
      clear BK1093
      clear HB
      have BK1093 := n0_
      have HB := n1_
      clear n0_ n1_
      (try clear hb)
      (try clear hb2)
      (try clear hk)
      (try clear hi)
      refine hK.out _ _ ⟨cz_ BK1093.out 0 rfl, cz_ BK1093.out 1 rfl, cz_ BK1093.out 2 rfl, cz_ BK1093.out 3 rfl, cz_ BK1093.out 4 rfl, cz_ BK1093.out 5 rfl, cz_ BK1093.out 6 rfl, ((HB.out.cell (World.block_lt_of_cell? w _ hw1094_0)).trans hw1094_0)⟩ (fun hHeld => ?_)
      clear hK K
      refine norm_ (a' := ?_) ?_ ?_
      rotate_left
      ·show Act.put _ (some 19) _ = _
       simp only [Act.put, eA_, e0_, eS_, i64_w, i32_w]
       rfl
      refine pu_ 16 (some 20) (bv 18 131071) rfl rfl (any_of HT_.out (by kernel_rfl)) (fun _ _ _ h => h) (by rfl) (fun w' => by go_simp; with_reducible rfl) (by simp only [Act.put, eA_, e0_, eS_, i64_w, i32_w]; rfl) ?_
      refine pu_ 17 (some 21) (bv 18 262143) rfl rfl (any_of HT_.out (by kernel_rfl)) (fun _ _ _ h => h) (by rfl) (fun w' => by go_simp; with_reducible rfl) (by simp only [Act.put, eA_, e0_, eS_, i64_w, i32_w]; rfl) ?_
      refine done_ (done_of HT_.out (by kernel_rfl)) ?_
      try go_wp2
      go_ret
      exact ⟨by first | rfl | (simp [errW_none, errW_some] <;> rfl) | (simp [*, errW_none, errW_some] <;> rfl), by repeat (first | (with_reducible first | exact HB.out | apply below_alloc | apply pw_below_drewN | apply below_drew1 | refine below_set ?_ GE1093.out) | exact HB.out)⟩
    ·rw [if_neg c4] at H
     exact absurd H (by simp)
   ·rw [if_neg c3] at H
    have c3b0 : decide (x3_1 < (l0_2.length : Int)) = false := decide_eq_false c3
    clear c3
    obtain rfl := Option.some.inj H
    try go_wp2
    have n0_ := Aside0.mk (blk_drew BK1093.out)
    have n1_ := Aside0.mk (below_drew1 HB.out)
    clear BK1093
    clear HB
    have BK1093 := n0_
    have HB := n1_
    clear n0_ n1_
    refine start_ (n := 18) (S := fun w' => w'.cell? ⟨gb1093, 0, none⟩ = some (.int .i64 a0_0) ∧ w'.cell? ⟨gb1093, 1, none⟩ = some (.int .i64 a0_1) ∧ w'.cell? ⟨gb1093, 2, none⟩ = some (.slice A0_2 l0_2.length c0_2) ∧ w'.cell? ⟨gb1093, 3, none⟩ = some (.slice A0_3 l0_3.length c0_3) ∧ w'.cell? ⟨gb1093, 4, none⟩ = some (.int .i64 a0_4) ∧ w'.cell? ⟨gb1093, 5, none⟩ = some (.int .i64 a0_5) ∧ w'.cell? ⟨gb1093, 6, none⟩ = some (.slice A0_6 l0_6.length c0_6)) (ds := []) (.replicate 18 false) (by kernel_rfl) rfl rfl ⟨cz_ BK1093.out 0 rfl, cz_ BK1093.out 1 rfl, cz_ BK1093.out 2 rfl, cz_ BK1093.out 3 rfl, cz_ BK1093.out 4 rfl, cz_ BK1093.out 5 rfl, cz_ BK1093.out 6 rfl⟩ (fun hHeld => ?_); refine with_tabW impl_Getting_windows.tab2 impl_Getting_windows.bits2 (fun HT_ HW_ => ?_)
    generalize wr.drew = w11 at BK1093 HB hHeld ⊢
    refine pu_ 0 (some 4) (bv 18 1) rfl rfl (any_of HT_.out (by kernel_rfl)) (fun _ _ _ h => h) (by rfl) (fun w' => by go_simp; with_reducible rfl) (by simp only [Act.put, eA_, e0_, eS_, i64_w, i32_w]; rfl) ?_
    refine pu_ 1 (some 5) (bv 18 3) rfl rfl (any_of HT_.out (by kernel_rfl)) (fun _ _ _ h => h) (by rfl) (fun w' => by go_simp; with_reducible rfl) (by simp only [Act.put, eA_, e0_, eS_, i64_w, i32_w]; rfl) ?_
    refine pu_ 2 (some 6) (bv 18 7) rfl rfl (any_of HT_.out (by kernel_rfl)) (fun _ _ _ h => h) (by rfl) (fun w' => by go_simp; with_reducible rfl) (by simp only [Act.put, eA_, e0_, eS_, i64_w, i32_w]; rfl) ?_
    refine tk_ 3 (some 7) (bv 18 15) rfl rfl (take_ofW HT_.out HW_.out (by kernel_rfl)) (fun _ _ _ h => h) (by rfl) hHeld (fun w' ⟨s0, s1, s2, s3, s4, s5, s6⟩ => by go_simp; with_reducible rfl) (by simp only [Act.put, eA_, e0_, eS_, i64_w, i32_w]; rfl) ?_
    refine pu_ 4 (some 8) (bv 18 31) rfl rfl (any_of HT_.out (by kernel_rfl)) (fun _ _ _ h => h) (by rfl) (fun w' => by go_simp; with_reducible rfl) (by simp only [Act.put, eA_, e0_, eS_, i64_w, i32_w]; rfl) ?_
    refine pu_ 5 (some 9) (bv 18 63) rfl rfl (any_of HT_.out (by kernel_rfl)) (fun _ _ _ h => h) (by rfl) (fun w' => by go_simp; with_reducible rfl) (by simp only [Act.put, eA_, e0_, eS_, i64_w, i32_w]; rfl) ?_
    refine pu_ 6 (some 10) (bv 18 127) rfl rfl (any_of HT_.out (by kernel_rfl)) (fun _ _ _ h => h) (by rfl) (fun w' => by go_simp; with_reducible rfl) (by simp only [Act.put, eA_, e0_, eS_, i64_w, i32_w]; rfl) ?_
    refine sk_ 10 [7, 8, 9, 10, 11, 12, 13, 14, 15, 16] [11, 12, 13, 14, 15, 16, 17, 18, 19, 20] (bv 18 131071) rfl (skB_of HT_.out (by kernel_rfl)) (by kernel_rfl) (fun _ _ _ _ _ h => h) (by simp only [putU, Act.put, eA_, e0_, eS_]; rfl) ?_
    refine pu_ 17 (some 21) (bv 18 262143) rfl rfl (any_of HT_.out (by kernel_rfl)) (fun _ _ _ h => h) (by rfl) (fun w' => by go_simp; with_reducible rfl) (by simp only [Act.put, eA_, e0_, eS_, i64_w, i32_w]; rfl) ?_
    refine done_ (done_of HT_.out (by kernel_rfl)) ?_
    try go_wp2
    go_ret
    exact ⟨by first | rfl | (simp [errW_none, errW_some] <;> rfl) | (simp [*, errW_none, errW_some] <;> rfl), by repeat (first | (with_reducible first | exact HB.out | apply below_alloc | apply pw_below_drewN | apply below_drew1 | refine below_set ?_ GE1093.out) | exact HB.out)⟩

/-! ### impl_GetWindows: function 57 -/
def impl_GetWindows.f (k : Nat) (a0_0 : Int) (a0_1 : Int) (l0_2 : List Int) (l0_3 : List Int) (a0_4 : Int) (a0_5 : Int) (l0_6 : List (S84)) : Option (Int) := (impl_GetOk.f k a0_0 a0_1 l0_2 l0_3 a0_4 a0_5 l0_6).bind fun t1097 => (if t1097 = true then ((impl_Getting_windows.f k a0_0 a0_1 l0_2 l0_3 a0_4 a0_5 l0_6).bind fun t1098 => (some t1098)) else (some 0))
theorem impl_GetWindows.mono : ∀ a0 a1 a2 a3 a4 a5 a6 k, LeO (impl_GetWindows.f k a0 a1 a2 a3 a4 a5 a6) (impl_GetWindows.f (k + 1) a0 a1 a2 a3 a4 a5 a6) := by
 intro a0 a1 a2 a3 a4 a5 a6 k
 unfold impl_GetWindows.f
 repeat' first
  | (with_reducible exact impl_GetOk.mono _ _ _ _ _ _ _ _)
  | (with_reducible exact impl_Getting_windows.mono _ _ _ _ _ _ _ _)
  | (with_reducible exact LeO.refl _)
  | (with_reducible exact LeO.none _)
  | (with_reducible refine LeO.ite ?_ ?_)
  | (with_reducible refine LeO.bind ?_ (fun _ => ?_))
  | exact impl_GetOk.mono _ _ _ _ _ _ _ _
  | exact impl_Getting_windows.mono _ _ _ _ _ _ _ _
  | exact LeO.none _
  | refine LeO.ite ?_ ?_
  | refine LeO.bind ?_ (fun _ => ?_)
set_option maxHeartbeats 8000000 in
set_option maxRecDepth 100000 in
theorem impl_GetWindows.calls (k : Nat) (a0_0 : Int) (a0_1 : Int) (A0_2 : Option Addr) (c0_2 : Nat) (l0_2 : List Int) (A0_3 : Option Addr) (c0_3 : Nat) (l0_3 : List Int) (a0_4 : Int) (a0_5 : Int) (A0_6 : Option Addr) (c0_6 : Nat) (l0_6 : List (S84)) (r : Int) (w : World) (hr0_2 : Kd.C (Kd.int .i64) w A0_2 l0_2.length l0_2) (hc0_2 : l0_2.length ≤ c0_2) (hr0_3 : Kd.C (Kd.int .i64) w A0_3 l0_3.length l0_3) (hc0_3 : l0_3.length ≤ c0_3) (hr0_6 : Kd.C k84 w A0_6 l0_6.length l0_6) (hc0_6 : l0_6.length ≤ c0_6) (h : impl_GetWindows.f k a0_0 a0_1 l0_2 l0_3 a0_4 a0_5 l0_6 = some r) :
 Calls Try.prog 57 #[.agg #[.int .i64 a0_0, .int .i64 a0_1, .slice A0_2 l0_2.length c0_2, .slice A0_3 l0_3.length c0_3, .int .i64 a0_4, .int .i64 a0_5, .slice A0_6 l0_6.length c0_6]] w fun e w' => e = .returned (.int .i64 r) ∧ Below w.heap.size w w' := by
 have hu61 := Try.underlying61
 have HR0_2 := Aside0.mk hr0_2
 have HC0_2 := Aside0.mk hc0_2
 clear hr0_2 hc0_2
 have HR0_3 := Aside0.mk hr0_3
 have HC0_3 := Aside0.mk hc0_3
 clear hr0_3 hc0_3
 have HR0_6 := Aside0.mk hr0_6
 have HC0_6 := Aside0.mk hc0_6
 clear hr0_6 hc0_6
 have HB := Aside0.mk (Below.refl w.heap.size w)
 have H : ((impl_GetOk.f k a0_0 a0_1 l0_2 l0_3 a0_4 a0_5 l0_6).bind fun t1097 => (if t1097 = true then ((impl_Getting_windows.f k a0_0 a0_1 l0_2 l0_3 a0_4 a0_5 l0_6).bind fun t1098 => (some t1098)) else (some 0))) = some r := h
 clear h
 replace H := bI_ H
 obtain ⟨t1097, A20, H⟩ := H
 replace H : (if t1097 = true then ((impl_Getting_windows.f k a0_0 a0_1 l0_2 l0_3 a0_4 a0_5 l0_6).bind fun t1098 => (some t1098)) else (some 0)) = some r := H
 have A2 := Aside0.mk A20
 clear A20
 by_cases c3 : t1097 = true
 ·subst c3
  have H1 : ((impl_Getting_windows.f k a0_0 a0_1 l0_2 l0_3 a0_4 a0_5 l0_6).bind fun t1098 => (some t1098)) = some r := by rw [if_pos rfl] at H; exact H
  clear H
  have H := H1
  clear H1
  replace H := bI_ H
  obtain ⟨t1098, A40, H⟩ := H
  replace H : (some t1098) = some r := H
  have A4 := Aside0.mk A40
  clear A40
  obtain rfl := Option.some.inj H
  go_enter Try.func57, Try.ntmps57
  go_wp2_with (first | ((with_reducible refine gate_dst (N := 1) rfl ?_); refine box_event ?hg (N := 1) ?hd (cs := #[.int .i64 a0_0, .int .i64 a0_1, .slice A0_2 l0_2.length c0_2, .slice A0_3 l0_3.length c0_3, .int .i64 a0_4, .int .i64 a0_5, .slice A0_6 l0_6.length c0_6]) (t := 61) ?hr ?_; (case hd => rfl); (case hg => rfl); (case hr => first | (go_simp; done) | (go_simp; rfl)); intro gb1096 hg w5 hbox hb; have n0_ := Aside0.mk (below_step (gB HB.out) hb); have n1_ := Aside0.mk (hbox); have n2_ := Aside0.mk ((by rw [hg]; exact (below_size (gB HB.out)) : w.heap.size ≤ gb1096)); have n3_ := n2_; clear HB; have HB := n0_; have BK1096 := n1_; have GW1096 := n2_; have GE1096 := n3_; clear n0_ n1_ n2_ n3_; clear hb hbox hg; have hcz6_0 := cz_ BK1096.out 0 rfl; have hcz6_1 := cz_ BK1096.out 1 rfl; have hcz6_2 := cz_ BK1096.out 2 rfl; have hcz6_3 := cz_ BK1096.out 3 rfl; have hcz6_4 := cz_ BK1096.out 4 rfl; have hcz6_5 := cz_ BK1096.out 5 rfl; have hcz6_6 := cz_ BK1096.out 6 rfl; have hfz6_0 := blk_frozen BK1096.out 0; have hfz6_1 := blk_frozen BK1096.out 1; have hfz6_2 := blk_frozen BK1096.out 2; have hfz6_3 := blk_frozen BK1096.out 3; have hfz6_4 := blk_frozen BK1096.out 4; have hfz6_5 := blk_frozen BK1096.out 5; have hfz6_6 := blk_frozen BK1096.out 6) | ((with_reducible refine gate_callee (f := 53) rfl ?_); refine goesL_ (some 4) rfl rfl Try.func53 (by kernel_rfl) rfl #[.agg #[.int .i64 a0_0, .int .i64 a0_1, .slice A0_2 l0_2.length c0_2, .slice A0_3 l0_3.length c0_3, .int .i64 a0_4, .int .i64 a0_5, .slice A0_6 l0_6.length c0_6]] rfl (by (try simp only [List.map_toArray, List.map_cons, List.map_nil]); first | done | rfl | (simp only [List.length_drop, List.length_take]; rfl)) ?_; (with_reducible refine (impl_GetOk.calls k a0_0 a0_1 _ _ l0_2 _ _ l0_3 a0_4 a0_5 _ _ l0_6 true _ ?side1 ?side2 ?side3 ?side4 ?side5 ?side6 A2.out).mono ?_); (case side1 => exact gC (Kd.C_below HR0_2.out HB.out)); (case side2 => exact HC0_2.out); (case side3 => exact gC (Kd.C_below HR0_3.out HB.out)); (case side4 => exact HC0_3.out); (case side5 => exact gC (Kd.C_below HR0_6.out HB.out)); (case side6 => exact HC0_6.out); rintro e w7 ⟨rfl, hb⟩; refine ⟨_, rfl, ?_⟩; have n0_ := Aside0.mk (blk_below (gK BK1096.out) hb); have n1_ := Aside0.mk (below_step (gB HB.out) hb); clear BK1096; clear HB; have BK1096 := n0_; have HB := n1_; clear n0_ n1_; (try clear hb); (try clear hb2); (try clear hk); (try clear hi); have hcz8_0 := cz_ BK1096.out 0 rfl; have hcz8_1 := cz_ BK1096.out 1 rfl; have hcz8_2 := cz_ BK1096.out 2 rfl; have hcz8_3 := cz_ BK1096.out 3 rfl; have hcz8_4 := cz_ BK1096.out 4 rfl; have hcz8_5 := cz_ BK1096.out 5 rfl; have hcz8_6 := cz_ BK1096.out 6 rfl; have hfz8_0 := blk_frozen BK1096.out 0; have hfz8_1 := blk_frozen BK1096.out 1; have hfz8_2 := blk_frozen BK1096.out 2; have hfz8_3 := blk_frozen BK1096.out 3; have hfz8_4 := blk_frozen BK1096.out 4; have hfz8_5 := blk_frozen BK1096.out 5; have hfz8_6 := blk_frozen BK1096.out 6) | ((with_reducible refine gate_callee (f := 98) rfl ?_); refine goesL_ (some 7) rfl rfl Try.func98 (by kernel_rfl) rfl #[.agg #[.int .i64 a0_0, .int .i64 a0_1, .slice A0_2 l0_2.length c0_2, .slice A0_3 l0_3.length c0_3, .int .i64 a0_4, .int .i64 a0_5, .slice A0_6 l0_6.length c0_6]] rfl (by (try simp only [List.map_toArray, List.map_cons, List.map_nil]); first | done | rfl | (simp only [List.length_drop, List.length_take]; rfl)) ?_; (with_reducible refine (impl_Getting_windows.calls k a0_0 a0_1 _ _ l0_2 _ _ l0_3 a0_4 a0_5 _ _ l0_6 t1098 _ ?side1 ?side2 ?side3 ?side4 ?side5 ?side6 A4.out).mono ?_); (case side1 => exact gC (Kd.C_below HR0_2.out HB.out)); (case side2 => exact HC0_2.out); (case side3 => exact gC (Kd.C_below HR0_3.out HB.out)); (case side4 => exact HC0_3.out); (case side5 => exact gC (Kd.C_below HR0_6.out HB.out)); (case side6 => exact HC0_6.out); rintro e w9 ⟨rfl, hb⟩; refine ⟨_, rfl, ?_⟩; have n0_ := Aside0.mk (blk_below (gK BK1096.out) hb); have n1_ := Aside0.mk (below_step (gB HB.out) hb); clear BK1096; clear HB; have BK1096 := n0_; have HB := n1_; clear n0_ n1_; (try clear hb); (try clear hb2); (try clear hk); (try clear hi)))
  go_ret
  exact ⟨by first | rfl | (simp [errW_none, errW_some] <;> rfl) | (simp [*, errW_none, errW_some] <;> rfl), by repeat (first | (with_reducible first | exact HB.out | apply below_alloc | apply pw_below_drewN | apply below_drew1 | refine below_set ?_ GE1096.out) | exact HB.out)⟩
 ·replace c3 := Bool.eq_false_iff.mpr c3
  subst c3
  have H1 : (some 0) = some r := by rw [if_neg (show ¬ (false = true) by decide)] at H; exact H
  clear H
  have H := H1
  clear H1
  obtain rfl := Option.some.inj H
  go_enter Try.func57, Try.ntmps57
  go_wp2_with (first | ((with_reducible refine gate_dst (N := 1) rfl ?_); refine box_event ?hg (N := 1) ?hd (cs := #[.int .i64 a0_0, .int .i64 a0_1, .slice A0_2 l0_2.length c0_2, .slice A0_3 l0_3.length c0_3, .int .i64 a0_4, .int .i64 a0_5, .slice A0_6 l0_6.length c0_6]) (t := 61) ?hr ?_; (case hd => rfl); (case hg => rfl); (case hr => first | (go_simp; done) | (go_simp; rfl)); intro gb1096 hg w10 hbox hb; have n0_ := Aside0.mk (below_step (gB HB.out) hb); have n1_ := Aside0.mk (hbox); have n2_ := Aside0.mk ((by rw [hg]; exact (below_size (gB HB.out)) : w.heap.size ≤ gb1096)); have n3_ := n2_; clear HB; have HB := n0_; have BK1096 := n1_; have GW1096 := n2_; have GE1096 := n3_; clear n0_ n1_ n2_ n3_; clear hb hbox hg; have hcz11_0 := cz_ BK1096.out 0 rfl; have hcz11_1 := cz_ BK1096.out 1 rfl; have hcz11_2 := cz_ BK1096.out 2 rfl; have hcz11_3 := cz_ BK1096.out 3 rfl; have hcz11_4 := cz_ BK1096.out 4 rfl; have hcz11_5 := cz_ BK1096.out 5 rfl; have hcz11_6 := cz_ BK1096.out 6 rfl; have hfz11_0 := blk_frozen BK1096.out 0; have hfz11_1 := blk_frozen BK1096.out 1; have hfz11_2 := blk_frozen BK1096.out 2; have hfz11_3 := blk_frozen BK1096.out 3; have hfz11_4 := blk_frozen BK1096.out 4; have hfz11_5 := blk_frozen BK1096.out 5; have hfz11_6 := blk_frozen BK1096.out 6) | ((with_reducible refine gate_callee (f := 53) rfl ?_); refine goesL_ (some 4) rfl rfl Try.func53 (by kernel_rfl) rfl #[.agg #[.int .i64 a0_0, .int .i64 a0_1, .slice A0_2 l0_2.length c0_2, .slice A0_3 l0_3.length c0_3, .int .i64 a0_4, .int .i64 a0_5, .slice A0_6 l0_6.length c0_6]] rfl (by (try simp only [List.map_toArray, List.map_cons, List.map_nil]); first | done | rfl | (simp only [List.length_drop, List.length_take]; rfl)) ?_; (with_reducible refine (impl_GetOk.calls k a0_0 a0_1 _ _ l0_2 _ _ l0_3 a0_4 a0_5 _ _ l0_6 false _ ?side1 ?side2 ?side3 ?side4 ?side5 ?side6 A2.out).mono ?_); (case side1 => exact gC (Kd.C_below HR0_2.out HB.out)); (case side2 => exact HC0_2.out); (case side3 => exact gC (Kd.C_below HR0_3.out HB.out)); (case side4 => exact HC0_3.out); (case side5 => exact gC (Kd.C_below HR0_6.out HB.out)); (case side6 => exact HC0_6.out); rintro e w12 ⟨rfl, hb⟩; refine ⟨_, rfl, ?_⟩; have n0_ := Aside0.mk (blk_below (gK BK1096.out) hb); have n1_ := Aside0.mk (below_step (gB HB.out) hb); clear BK1096; clear HB; have BK1096 := n0_; have HB := n1_; clear n0_ n1_; (try clear hb); (try clear hb2); (try clear hk); (try clear hi)))
  go_ret
  exact ⟨by first | rfl | (simp [errW_none, errW_some] <;> rfl) | (simp [*, errW_none, errW_some] <;> rfl), by repeat (first | (with_reducible first | exact HB.out | apply below_alloc | apply pw_below_drewN | apply below_drew1 | refine below_set ?_ GE1096.out) | exact HB.out)⟩

end Go.Proofs.Ytaeeickboakmgaa.X
