/- Printed for this claim by the session's program (the kit's printer, several laws in one place): the functions that the law reaches, each as a plain Lean function, and the proof that the Go code comes to its answers. Conditions: none beside those that each theorem states. -/
import Derived.Test.YtaeeickboakmgaaXx0
import Derived.Test.YtaeeickboakmgaaXx31
import Derived.Test.YtaeeickboakmgaaXx33
import Derived.Test.YtaeeickboakmgaaXx35
import Derived.Test.YtaeeickboakmgaaXx37
import Derived.Test.YtaeeickboakmgaaXx43
import Derived.Test.YtaeeickboakmgaaXx44
import Derived.Test.YtaeeickboakmgaaWAll
namespace Go.Proofs.Ytaeeickboakmgaa.X
open Go.RowKit Go.Proofs.YtaeeickboakmgaaW.PrintWords Go.Proofs.YtaeeickboakmgaaW.PrintLast Go.Proofs.YtaeeickboakmgaaW.PrintStep Go.Proofs.YtaeeickboakmgaaW.PrintMore
attribute [local go_sem] max2_int min2_int max_two min_two max_three min_three max_four min_four   -- for this text's walks alone
set_option linter.unusedVariables false
set_option linter.unusedSimpArgs false

/-! ### spec_l6Text: function 99 -/
def spec_l6Text.l0 : Nat → ByteArray → Int → Int → Int → List Int → List Int → Int → Int → List (S84) → Option (ByteArray)
 | 0, _, _, _, _, _, _, _, _, _ => none
 | k + 1, x3, x4, x1145000, x1145001, x1145002, x1145003, x1145004, x1145005, x1145006 => (spec_l3Prefix.f k x1145004 x1145005 x1145006).bind fun t1145 => (if x4 < t1145 then ((spec_l3Get.f k x1145004 x1145005 x1145006 x4).bind fun bt1146 => (if x3.size + bt1146.1.size ≤ 9223372036854775807 then (spec_l6Text.l0 k (x3 ++ bt1146.1) (wrap64 (x4 + 1)) x1145000 x1145001 x1145002 x1145003 x1145004 x1145005 x1145006) else (none))) else (if (x3.size : Int) > x1145000 then (if 0 ≤ x1145000 then (if x1145000 ≤ (x3.size : Int) then (some (x3.extract 0 (x1145000 : Int).toNat)) else (none)) else (none)) else (some x3)))
def spec_l6Text.f (k : Nat) (a0_0 : Int) (a0_1 : Int) (l0_2 : List Int) (l0_3 : List Int) (a0_4 : Int) (a0_5 : Int) (l0_6 : List (S84)) : Option (ByteArray) := spec_l6Text.l0 k (⟨#[]⟩ : ByteArray) 0 a0_0 a0_1 l0_2 l0_3 a0_4 a0_5 l0_6
theorem spec_l6Text.mono_l : ∀ k, (∀ y0 y1 y2 y3 y4 y5 y6 y7 y8, LeO (spec_l6Text.l0 k y0 y1 y2 y3 y4 y5 y6 y7 y8) (spec_l6Text.l0 (k + 1) y0 y1 y2 y3 y4 y5 y6 y7 y8))
 | 0 => fun _ _ _ _ _ _ _ _ _ r h => by simp [spec_l6Text.l0] at h
 | k + 1 => by
  have ih0 := spec_l6Text.mono_l k
  ·intro y0 y1 y2 y3 y4 y5 y6 y7 y8
   unfold spec_l6Text.l0
   repeat' first
   | (with_reducible exact ih0 _ _ _ _ _ _ _ _ _)
   | (with_reducible exact spec_l3Get.mono _ _ _ _ _)
   | (with_reducible exact spec_l3Prefix.mono _ _ _ _)
   | (with_reducible exact LeO.refl _)
   | (with_reducible exact LeO.none _)
   | (with_reducible refine LeO.ite ?_ ?_)
   | (with_reducible refine LeO.bind ?_ (fun _ => ?_))
   | exact ih0 _ _ _ _ _ _ _ _ _
   | exact spec_l3Get.mono _ _ _ _ _
   | exact spec_l3Prefix.mono _ _ _ _
   | exact LeO.none _
   | refine LeO.ite ?_ ?_
   | refine LeO.bind ?_ (fun _ => ?_)
theorem spec_l6Text.mono : ∀ a0 a1 a2 a3 a4 a5 a6 k, LeO (spec_l6Text.f k a0 a1 a2 a3 a4 a5 a6) (spec_l6Text.f (k + 1) a0 a1 a2 a3 a4 a5 a6) := by
 intro a0 a1 a2 a3 a4 a5 a6 k
 have ih0 := spec_l6Text.mono_l k
 unfold spec_l6Text.f
 repeat' first
  | (with_reducible exact ih0 _ _ _ _ _ _ _ _ _)
  | (with_reducible exact spec_l3Get.mono _ _ _ _ _)
  | (with_reducible exact spec_l3Prefix.mono _ _ _ _)
  | (with_reducible exact LeO.refl _)
  | (with_reducible exact LeO.none _)
  | (with_reducible refine LeO.ite ?_ ?_)
  | (with_reducible refine LeO.bind ?_ (fun _ => ?_))
  | exact ih0 _ _ _ _ _ _ _ _ _
  | exact spec_l3Get.mono _ _ _ _ _
  | exact spec_l3Prefix.mono _ _ _ _
  | exact LeO.none _
  | refine LeO.ite ?_ ?_
  | refine LeO.bind ?_ (fun _ => ?_)
set_option maxHeartbeats 8000000 in
set_option maxRecDepth 100000 in
theorem spec_l6Text.calls (k : Nat) (a0_0 : Int) (a0_1 : Int) (A0_2 : Option Addr) (c0_2 : Nat) (l0_2 : List Int) (A0_3 : Option Addr) (c0_3 : Nat) (l0_3 : List Int) (a0_4 : Int) (a0_5 : Int) (A0_6 : Option Addr) (c0_6 : Nat) (l0_6 : List (S84)) (r : ByteArray) (w : World) (hr0_2 : Kd.C (Kd.int .i64) w A0_2 l0_2.length l0_2) (hc0_2 : l0_2.length ≤ c0_2) (hr0_3 : Kd.C (Kd.int .i64) w A0_3 l0_3.length l0_3) (hc0_3 : l0_3.length ≤ c0_3) (hr0_6 : Kd.C k84 w A0_6 l0_6.length l0_6) (hc0_6 : l0_6.length ≤ c0_6) (h : spec_l6Text.f k a0_0 a0_1 l0_2 l0_3 a0_4 a0_5 l0_6 = some r) :
 Calls Try.prog 99 #[.agg #[.int .i64 a0_0, .int .i64 a0_1, .slice A0_2 l0_2.length c0_2, .slice A0_3 l0_3.length c0_3, .int .i64 a0_4, .int .i64 a0_5, .slice A0_6 l0_6.length c0_6]] w fun e w' => e = .returned (.string r) ∧ Below w.heap.size w w' := by
 have hu61 := Try.underlying61
 have hu37 := Try.underlying37
 have HR0_2 := Aside0.mk hr0_2
 have HC0_2 := Aside0.mk hc0_2
 clear hr0_2 hc0_2
 have HR0_3 := Aside0.mk hr0_3
 have HC0_3 := Aside0.mk hc0_3
 clear hr0_3 hc0_3
 have HR0_6 := Aside0.mk hr0_6
 have HC0_6 := Aside0.mk hc0_6
 clear hr0_6 hc0_6
 have HB := Aside0.mk (Below.refl w.heap.size w)
 have H : (spec_l6Text.l0 k (⟨#[]⟩ : ByteArray) 0 a0_0 a0_1 l0_2 l0_3 a0_4 a0_5 l0_6) = some r := h
 clear h
 have H' := Aside0.mk H
 clear H
 go_enter Try.func99, Try.ntmps99
 go_wp2_with (first | ((with_reducible refine gate_dst (N := 1) rfl ?_); refine box_event ?hg (N := 1) ?hd (cs := #[.int .i64 a0_0, .int .i64 a0_1, .slice A0_2 l0_2.length c0_2, .slice A0_3 l0_3.length c0_3, .int .i64 a0_4, .int .i64 a0_5, .slice A0_6 l0_6.length c0_6]) (t := 61) ?hr ?_; (case hd => rfl); (case hg => rfl); (case hr => first | (go_simp; done) | (go_simp; rfl)); intro gb1144 hg w2 hbox hb; have n0_ := Aside0.mk (below_step (gB HB.out) hb); have n1_ := Aside0.mk (hbox); have n2_ := Aside0.mk ((by rw [hg]; exact (below_size (gB HB.out)) : w.heap.size ≤ gb1144)); have n3_ := n2_; clear HB; have HB := n0_; have BK1144 := n1_; have GW1144 := n2_; have GE1144 := n3_; clear n0_ n1_ n2_ n3_; clear hb hbox hg))
 go_loopg [3, 4] k (fun kq v3 v4 w' => ∃ (x3_1 : ByteArray) (x4_1 : Int), v3 = .string x3_1 ∧ v4 = .int .i64 x4_1 ∧ Aside0 (spec_l6Text.l0 kq x3_1 x4_1 a0_0 a0_1 l0_2 l0_3 a0_4 a0_5 l0_6 = some r) ∧ Aside0 (kq ≤ k) ∧ Aside0 (w'.heap[gb1144]? = some (.cells #[.int .i64 a0_0, .int .i64 a0_1, (.slice A0_2 l0_2.length c0_2), (.slice A0_3 l0_3.length c0_3), .int .i64 a0_4, .int .i64 a0_5, (.slice A0_6 l0_6.length c0_6)] 61 (0, 0))) ∧ Aside0 (Below w.heap.size w w'))
 case atStart => exact ⟨((⟨#[]⟩ : ByteArray)), (0), (by first | rfl | (simp; done) | (simp [*]; done) | (simp [wrap64]; done)), (by first | rfl | (simp; done) | (simp [*]; done) | (simp [wrap64]; done)), H', ⟨Nat.le_refl _⟩, ⟨by (with_reducible repeat (first | refine blk_drewN ?_ _ | refine blk_drew ?_ | refine blk_alloc ?_ _)); exact BK1144.out⟩, ⟨by repeat (first | (with_reducible first | exact HB.out | apply below_alloc | apply pw_below_drewN | apply below_drew1 | refine below_set ?_ GE1144.out) | exact HB.out)⟩⟩
 case round =>
  clear H'
  try clear p2
  obtain ⟨x3_1, x4_1, rfl, rfl, HA, HK1, BK1144, HB⟩ := hrel
  cases gk with
  | zero => exact absurd HA.out (by simp [spec_l6Text.l0])
  | succ k1 =>
   have H := HA.out
   clear HA
   simp only [spec_l6Text.l0] at H
   replace H := bI_ H
   obtain ⟨t1145, A30, H⟩ := H
   replace H : (if x4_1 < t1145 then ((spec_l3Get.f k1 a0_4 a0_5 l0_6 x4_1).bind fun bt1146 => (if x3_1.size + bt1146.1.size ≤ 9223372036854775807 then (spec_l6Text.l0 k1 (x3_1 ++ bt1146.1) (wrap64 (x4_1 + 1)) a0_0 a0_1 l0_2 l0_3 a0_4 a0_5 l0_6) else (none))) else (if (x3_1.size : Int) > a0_0 then (if 0 ≤ a0_0 then (if a0_0 ≤ (x3_1.size : Int) then (some (x3_1.extract 0 (a0_0 : Int).toNat)) else (none)) else (none)) else (some x3_1))) = some r := H
   have A3 := Aside0.mk A30
   clear A30
   by_cases c4 : x4_1 < t1145
   ·rw [if_pos c4] at H
    have c4b0 : decide (x4_1 < t1145) = true := decide_eq_true c4
    clear c4
    replace H := bI_ H
    obtain ⟨⟨t1146, t1147⟩, A50, H⟩ := H
    replace H : (if x3_1.size + t1146.size ≤ 9223372036854775807 then (spec_l6Text.l0 k1 (x3_1 ++ t1146) (wrap64 (x4_1 + 1)) a0_0 a0_1 l0_2 l0_3 a0_4 a0_5 l0_6) else (none)) = some r := H
    have A5 := Aside0.mk A50
    clear A50
    by_cases c6 : x3_1.size + t1146.size ≤ 9223372036854775807
    ·rw [if_pos c6] at H
     have c6b0 := eq_true c6
     have c6b1 : decide (x3_1.size + t1146.size ≤ 9223372036854775807) = true := decide_eq_true c6
     try have c6b2 : (9223372036854775807 < x3_1.size + t1146.size) = False := eq_false (Nat.not_lt.2 c6)
     have H' := Aside0.mk H
     clear H
     have hcz7_0 := cz_ BK1144.out 0 rfl
     have hcz7_1 := cz_ BK1144.out 1 rfl
     have hcz7_2 := cz_ BK1144.out 2 rfl
     have hcz7_3 := cz_ BK1144.out 3 rfl
     have hcz7_4 := cz_ BK1144.out 4 rfl
     have hcz7_5 := cz_ BK1144.out 5 rfl
     have hcz7_6 := cz_ BK1144.out 6 rfl
     have hfz7_0 := blk_frozen BK1144.out 0
     have hfz7_1 := blk_frozen BK1144.out 1
     have hfz7_2 := blk_frozen BK1144.out 2
     have hfz7_3 := blk_frozen BK1144.out 3
     have hfz7_4 := blk_frozen BK1144.out 4
     have hfz7_5 := blk_frozen BK1144.out 5
     have hfz7_6 := blk_frozen BK1144.out 6
     go_wp2_with (first | ((with_reducible refine gate_callee (f := 86) rfl ?_); refine goesL_ (some 10) rfl rfl Try.func86 (by kernel_rfl) rfl #[.agg #[.int .i64 a0_4, .int .i64 a0_5, .slice A0_6 l0_6.length c0_6]] rfl (by (try simp only [List.map_toArray, List.map_cons, List.map_nil]); first | done | rfl | (simp only [List.length_drop, List.length_take]; rfl)) ?_; (with_reducible refine (spec_l3Prefix.calls k1 a0_4 a0_5 _ _ l0_6 t1145 _ ?side1 ?side2 A3.out).mono ?_); (case side1 => exact gC (Kd.C_below HR0_6.out HB.out)); (case side2 => exact HC0_6.out); rintro e w8 ⟨rfl, hb⟩; refine ⟨_, rfl, ?_⟩; have n0_ := Aside0.mk (blk_below (gK BK1144.out) hb); have n1_ := Aside0.mk (below_step (gB HB.out) hb); clear BK1144; clear HB; have BK1144 := n0_; have HB := n1_; clear n0_ n1_; (try clear hb); (try clear hb2); (try clear hk); (try clear hi); have hcz9_0 := cz_ BK1144.out 0 rfl; have hcz9_1 := cz_ BK1144.out 1 rfl; have hcz9_2 := cz_ BK1144.out 2 rfl; have hcz9_3 := cz_ BK1144.out 3 rfl; have hcz9_4 := cz_ BK1144.out 4 rfl; have hcz9_5 := cz_ BK1144.out 5 rfl; have hcz9_6 := cz_ BK1144.out 6 rfl; have hfz9_0 := blk_frozen BK1144.out 0; have hfz9_1 := blk_frozen BK1144.out 1; have hfz9_2 := blk_frozen BK1144.out 2; have hfz9_3 := blk_frozen BK1144.out 3; have hfz9_4 := blk_frozen BK1144.out 4; have hfz9_5 := blk_frozen BK1144.out 5; have hfz9_6 := blk_frozen BK1144.out 6) | ((with_reducible refine gate_callee (f := 84) rfl ?_); refine goesL_ (some 18) rfl rfl Try.func84 (by kernel_rfl) rfl #[.agg #[.int .i64 a0_4, .int .i64 a0_5, .slice A0_6 l0_6.length c0_6], .int .i64 x4_1] rfl (by (try simp only [List.map_toArray, List.map_cons, List.map_nil]); first | done | rfl | (simp only [List.length_drop, List.length_take]; rfl)) ?_; (with_reducible refine (spec_l3Get.calls k1 a0_4 a0_5 _ _ l0_6 x4_1 t1146 t1147 _ ?side1 ?side2 A5.out).mono ?_); (case side1 => exact gC (Kd.C_below HR0_6.out HB.out)); (case side2 => exact HC0_6.out); rintro e w10 ⟨rfl, hb⟩; refine ⟨_, rfl, ?_⟩; have n0_ := Aside0.mk (blk_below (gK BK1144.out) hb); have n1_ := Aside0.mk (below_step (gB HB.out) hb); clear BK1144; clear HB; have BK1144 := n0_; have HB := n1_; clear n0_ n1_; (try clear hb); (try clear hb2); (try clear hk); (try clear hi)))
     go_roundg k1
     case measure => have := HK1.out; omega
     case rel => exact ⟨(x3_1 ++ t1146), (wrap64 (x4_1 + 1)), (by first | rfl | (simp; done) | (simp [*]; done) | (simp [wrap64]; done)), (by first | rfl | (simp; done) | (simp [*]; done) | (simp [wrap64]; done)), H', ⟨by have := HK1.out; omega⟩, ⟨by (with_reducible repeat (first | refine blk_drewN ?_ _ | refine blk_drew ?_ | refine blk_alloc ?_ _)); exact BK1144.out⟩, ⟨by repeat (first | (with_reducible first | exact HB.out | apply below_alloc | apply pw_below_drewN | apply below_drew1 | refine below_set ?_ GE1144.out) | exact HB.out)⟩⟩
    ·rw [if_neg c6] at H
     exact absurd H (by simp)
   ·rw [if_neg c4] at H
    have c4b0 : decide (x4_1 < t1145) = false := decide_eq_false c4
    clear c4
    by_cases c11 : (x3_1.size : Int) > a0_0
    ·rw [if_pos c11] at H
     have c11b0 : decide (a0_0 < (x3_1.size : Int)) = true := decide_eq_true c11
     clear c11
     by_cases c12 : 0 ≤ a0_0
     ·rw [if_pos c12] at H
      have c12b0 := eq_true c12
      have c12b1 : decide (0 ≤ a0_0) = true := decide_eq_true c12
      clear c12
      by_cases c13 : a0_0 ≤ (x3_1.size : Int)
      ·rw [if_pos c13] at H
       have c13b0 := eq_true c13
       have c13b1 : decide (a0_0 ≤ (x3_1.size : Int)) = true := decide_eq_true c13
       clear c13
       obtain rfl := Option.some.inj H
       have hcz14_0 := cz_ BK1144.out 0 rfl
       have hcz14_1 := cz_ BK1144.out 1 rfl
       have hcz14_2 := cz_ BK1144.out 2 rfl
       have hcz14_3 := cz_ BK1144.out 3 rfl
       have hcz14_4 := cz_ BK1144.out 4 rfl
       have hcz14_5 := cz_ BK1144.out 5 rfl
       have hcz14_6 := cz_ BK1144.out 6 rfl
       have hfz14_0 := blk_frozen BK1144.out 0
       have hfz14_1 := blk_frozen BK1144.out 1
       have hfz14_2 := blk_frozen BK1144.out 2
       have hfz14_3 := blk_frozen BK1144.out 3
       have hfz14_4 := blk_frozen BK1144.out 4
       have hfz14_5 := blk_frozen BK1144.out 5
       have hfz14_6 := blk_frozen BK1144.out 6
       go_wp2_with (first | ((with_reducible refine gate_callee (f := 86) rfl ?_); refine goesL_ (some 10) rfl rfl Try.func86 (by kernel_rfl) rfl #[.agg #[.int .i64 a0_4, .int .i64 a0_5, .slice A0_6 l0_6.length c0_6]] rfl (by (try simp only [List.map_toArray, List.map_cons, List.map_nil]); first | done | rfl | (simp only [List.length_drop, List.length_take]; rfl)) ?_; (with_reducible refine (spec_l3Prefix.calls k1 a0_4 a0_5 _ _ l0_6 t1145 _ ?side1 ?side2 A3.out).mono ?_); (case side1 => exact gC (Kd.C_below HR0_6.out HB.out)); (case side2 => exact HC0_6.out); rintro e w15 ⟨rfl, hb⟩; refine ⟨_, rfl, ?_⟩; have n0_ := Aside0.mk (blk_below (gK BK1144.out) hb); have n1_ := Aside0.mk (below_step (gB HB.out) hb); clear BK1144; clear HB; have BK1144 := n0_; have HB := n1_; clear n0_ n1_; (try clear hb); (try clear hb2); (try clear hk); (try clear hi); have hcz16_0 := cz_ BK1144.out 0 rfl; have hcz16_1 := cz_ BK1144.out 1 rfl; have hcz16_2 := cz_ BK1144.out 2 rfl; have hcz16_3 := cz_ BK1144.out 3 rfl; have hcz16_4 := cz_ BK1144.out 4 rfl; have hcz16_5 := cz_ BK1144.out 5 rfl; have hcz16_6 := cz_ BK1144.out 6 rfl; have hfz16_0 := blk_frozen BK1144.out 0; have hfz16_1 := blk_frozen BK1144.out 1; have hfz16_2 := blk_frozen BK1144.out 2; have hfz16_3 := blk_frozen BK1144.out 3; have hfz16_4 := blk_frozen BK1144.out 4; have hfz16_5 := blk_frozen BK1144.out 5; have hfz16_6 := blk_frozen BK1144.out 6))
       go_ret
       exact ⟨by first | rfl | (simp [errW_none, errW_some] <;> rfl) | (simp [*, errW_none, errW_some] <;> rfl), by repeat (first | (with_reducible first | exact HB.out | apply below_alloc | apply pw_below_drewN | apply below_drew1 | refine below_set ?_ GE1144.out) | exact HB.out)⟩
      ·rw [if_neg c13] at H
       exact absurd H (by simp)
     ·rw [if_neg c12] at H
      exact absurd H (by simp)
    ·rw [if_neg c11] at H
     have c11b0 : decide (a0_0 < (x3_1.size : Int)) = false := decide_eq_false c11
     clear c11
     obtain rfl := Option.some.inj H
     have hcz17_0 := cz_ BK1144.out 0 rfl
     have hcz17_1 := cz_ BK1144.out 1 rfl
     have hcz17_2 := cz_ BK1144.out 2 rfl
     have hcz17_3 := cz_ BK1144.out 3 rfl
     have hcz17_4 := cz_ BK1144.out 4 rfl
     have hcz17_5 := cz_ BK1144.out 5 rfl
     have hcz17_6 := cz_ BK1144.out 6 rfl
     have hfz17_0 := blk_frozen BK1144.out 0
     have hfz17_1 := blk_frozen BK1144.out 1
     have hfz17_2 := blk_frozen BK1144.out 2
     have hfz17_3 := blk_frozen BK1144.out 3
     have hfz17_4 := blk_frozen BK1144.out 4
     have hfz17_5 := blk_frozen BK1144.out 5
     have hfz17_6 := blk_frozen BK1144.out 6
     go_wp2_with (first | ((with_reducible refine gate_callee (f := 86) rfl ?_); refine goesL_ (some 10) rfl rfl Try.func86 (by kernel_rfl) rfl #[.agg #[.int .i64 a0_4, .int .i64 a0_5, .slice A0_6 l0_6.length c0_6]] rfl (by (try simp only [List.map_toArray, List.map_cons, List.map_nil]); first | done | rfl | (simp only [List.length_drop, List.length_take]; rfl)) ?_; (with_reducible refine (spec_l3Prefix.calls k1 a0_4 a0_5 _ _ l0_6 t1145 _ ?side1 ?side2 A3.out).mono ?_); (case side1 => exact gC (Kd.C_below HR0_6.out HB.out)); (case side2 => exact HC0_6.out); rintro e w18 ⟨rfl, hb⟩; refine ⟨_, rfl, ?_⟩; have n0_ := Aside0.mk (blk_below (gK BK1144.out) hb); have n1_ := Aside0.mk (below_step (gB HB.out) hb); clear BK1144; clear HB; have BK1144 := n0_; have HB := n1_; clear n0_ n1_; (try clear hb); (try clear hb2); (try clear hk); (try clear hi); have hcz19_0 := cz_ BK1144.out 0 rfl; have hcz19_1 := cz_ BK1144.out 1 rfl; have hcz19_2 := cz_ BK1144.out 2 rfl; have hcz19_3 := cz_ BK1144.out 3 rfl; have hcz19_4 := cz_ BK1144.out 4 rfl; have hcz19_5 := cz_ BK1144.out 5 rfl; have hcz19_6 := cz_ BK1144.out 6 rfl; have hfz19_0 := blk_frozen BK1144.out 0; have hfz19_1 := blk_frozen BK1144.out 1; have hfz19_2 := blk_frozen BK1144.out 2; have hfz19_3 := blk_frozen BK1144.out 3; have hfz19_4 := blk_frozen BK1144.out 4; have hfz19_5 := blk_frozen BK1144.out 5; have hfz19_6 := blk_frozen BK1144.out 6))
     go_ret
     exact ⟨by first | rfl | (simp [errW_none, errW_some] <;> rfl) | (simp [*, errW_none, errW_some] <;> rfl), by repeat (first | (with_reducible first | exact HB.out | apply below_alloc | apply pw_below_drewN | apply below_drew1 | refine below_set ?_ GE1144.out) | exact HB.out)⟩

/-! ### spec_GetText: function 58 -/
def spec_GetText.f (k : Nat) (a0_0 : Int) (a0_1 : Int) (l0_2 : List Int) (l0_3 : List Int) (a0_4 : Int) (a0_5 : Int) (l0_6 : List (S84)) : Option (ByteArray) := (spec_GetOk.f k a0_0 a0_1 l0_2 l0_3 a0_4 a0_5 l0_6).bind fun t1149 => (if t1149 = true then ((spec_l6Text.f k a0_0 a0_1 l0_2 l0_3 a0_4 a0_5 l0_6).bind fun t1150 => (some t1150)) else (some (⟨#[]⟩ : ByteArray)))
theorem spec_GetText.mono : ∀ a0 a1 a2 a3 a4 a5 a6 k, LeO (spec_GetText.f k a0 a1 a2 a3 a4 a5 a6) (spec_GetText.f (k + 1) a0 a1 a2 a3 a4 a5 a6) := by
 intro a0 a1 a2 a3 a4 a5 a6 k
 unfold spec_GetText.f
 repeat' first
  | (with_reducible exact spec_GetOk.mono _ _ _ _ _ _ _ _)
  | (with_reducible exact spec_l6Text.mono _ _ _ _ _ _ _ _)
  | (with_reducible exact LeO.refl _)
  | (with_reducible exact LeO.none _)
  | (with_reducible refine LeO.ite ?_ ?_)
  | (with_reducible refine LeO.bind ?_ (fun _ => ?_))
  | exact spec_GetOk.mono _ _ _ _ _ _ _ _
  | exact spec_l6Text.mono _ _ _ _ _ _ _ _
  | exact LeO.none _
  | refine LeO.ite ?_ ?_
  | refine LeO.bind ?_ (fun _ => ?_)
set_option maxHeartbeats 8000000 in
set_option maxRecDepth 100000 in
theorem spec_GetText.calls (k : Nat) (a0_0 : Int) (a0_1 : Int) (A0_2 : Option Addr) (c0_2 : Nat) (l0_2 : List Int) (A0_3 : Option Addr) (c0_3 : Nat) (l0_3 : List Int) (a0_4 : Int) (a0_5 : Int) (A0_6 : Option Addr) (c0_6 : Nat) (l0_6 : List (S84)) (r : ByteArray) (w : World) (hr0_2 : Kd.C (Kd.int .i64) w A0_2 l0_2.length l0_2) (hc0_2 : l0_2.length ≤ c0_2) (hr0_3 : Kd.C (Kd.int .i64) w A0_3 l0_3.length l0_3) (hc0_3 : l0_3.length ≤ c0_3) (hr0_6 : Kd.C k84 w A0_6 l0_6.length l0_6) (hc0_6 : l0_6.length ≤ c0_6) (h : spec_GetText.f k a0_0 a0_1 l0_2 l0_3 a0_4 a0_5 l0_6 = some r) :
 Calls Try.prog 58 #[.agg #[.int .i64 a0_0, .int .i64 a0_1, .slice A0_2 l0_2.length c0_2, .slice A0_3 l0_3.length c0_3, .int .i64 a0_4, .int .i64 a0_5, .slice A0_6 l0_6.length c0_6]] w fun e w' => e = .returned (.string r) ∧ Below w.heap.size w w' := by
 have hu61 := Try.underlying61
 have HR0_2 := Aside0.mk hr0_2
 have HC0_2 := Aside0.mk hc0_2
 clear hr0_2 hc0_2
 have HR0_3 := Aside0.mk hr0_3
 have HC0_3 := Aside0.mk hc0_3
 clear hr0_3 hc0_3
 have HR0_6 := Aside0.mk hr0_6
 have HC0_6 := Aside0.mk hc0_6
 clear hr0_6 hc0_6
 have HB := Aside0.mk (Below.refl w.heap.size w)
 have H : ((spec_GetOk.f k a0_0 a0_1 l0_2 l0_3 a0_4 a0_5 l0_6).bind fun t1149 => (if t1149 = true then ((spec_l6Text.f k a0_0 a0_1 l0_2 l0_3 a0_4 a0_5 l0_6).bind fun t1150 => (some t1150)) else (some (⟨#[]⟩ : ByteArray)))) = some r := h
 clear h
 replace H := bI_ H
 obtain ⟨t1149, A20, H⟩ := H
 replace H : (if t1149 = true then ((spec_l6Text.f k a0_0 a0_1 l0_2 l0_3 a0_4 a0_5 l0_6).bind fun t1150 => (some t1150)) else (some (⟨#[]⟩ : ByteArray))) = some r := H
 have A2 := Aside0.mk A20
 clear A20
 by_cases c3 : t1149 = true
 ·subst c3
  have H1 : ((spec_l6Text.f k a0_0 a0_1 l0_2 l0_3 a0_4 a0_5 l0_6).bind fun t1150 => (some t1150)) = some r := by rw [if_pos rfl] at H; exact H
  clear H
  have H := H1
  clear H1
  replace H := bI_ H
  obtain ⟨t1150, A40, H⟩ := H
  replace H : (some t1150) = some r := H
  have A4 := Aside0.mk A40
  clear A40
  obtain rfl := Option.some.inj H
  go_enter Try.func58, Try.ntmps58
  go_wp2_with (first | ((with_reducible refine gate_dst (N := 1) rfl ?_); refine box_event ?hg (N := 1) ?hd (cs := #[.int .i64 a0_0, .int .i64 a0_1, .slice A0_2 l0_2.length c0_2, .slice A0_3 l0_3.length c0_3, .int .i64 a0_4, .int .i64 a0_5, .slice A0_6 l0_6.length c0_6]) (t := 61) ?hr ?_; (case hd => rfl); (case hg => rfl); (case hr => first | (go_simp; done) | (go_simp; rfl)); intro gb1148 hg w5 hbox hb; have n0_ := Aside0.mk (below_step (gB HB.out) hb); have n1_ := Aside0.mk (hbox); have n2_ := Aside0.mk ((by rw [hg]; exact (below_size (gB HB.out)) : w.heap.size ≤ gb1148)); have n3_ := n2_; clear HB; have HB := n0_; have BK1148 := n1_; have GW1148 := n2_; have GE1148 := n3_; clear n0_ n1_ n2_ n3_; clear hb hbox hg; have hcz6_0 := cz_ BK1148.out 0 rfl; have hcz6_1 := cz_ BK1148.out 1 rfl; have hcz6_2 := cz_ BK1148.out 2 rfl; have hcz6_3 := cz_ BK1148.out 3 rfl; have hcz6_4 := cz_ BK1148.out 4 rfl; have hcz6_5 := cz_ BK1148.out 5 rfl; have hcz6_6 := cz_ BK1148.out 6 rfl; have hfz6_0 := blk_frozen BK1148.out 0; have hfz6_1 := blk_frozen BK1148.out 1; have hfz6_2 := blk_frozen BK1148.out 2; have hfz6_3 := blk_frozen BK1148.out 3; have hfz6_4 := blk_frozen BK1148.out 4; have hfz6_5 := blk_frozen BK1148.out 5; have hfz6_6 := blk_frozen BK1148.out 6) | ((with_reducible refine gate_callee (f := 51) rfl ?_); refine goesL_ (some 4) rfl rfl Try.func51 (by kernel_rfl) rfl #[.agg #[.int .i64 a0_0, .int .i64 a0_1, .slice A0_2 l0_2.length c0_2, .slice A0_3 l0_3.length c0_3, .int .i64 a0_4, .int .i64 a0_5, .slice A0_6 l0_6.length c0_6]] rfl (by (try simp only [List.map_toArray, List.map_cons, List.map_nil]); first | done | rfl | (simp only [List.length_drop, List.length_take]; rfl)) ?_; (with_reducible refine (spec_GetOk.calls k a0_0 a0_1 _ _ l0_2 _ _ l0_3 a0_4 a0_5 _ _ l0_6 true _ ?side1 ?side2 ?side3 ?side4 ?side5 ?side6 A2.out).mono ?_); (case side1 => exact gC (Kd.C_below HR0_2.out HB.out)); (case side2 => exact HC0_2.out); (case side3 => exact gC (Kd.C_below HR0_3.out HB.out)); (case side4 => exact HC0_3.out); (case side5 => exact gC (Kd.C_below HR0_6.out HB.out)); (case side6 => exact HC0_6.out); rintro e w7 ⟨rfl, hb⟩; refine ⟨_, rfl, ?_⟩; have n0_ := Aside0.mk (blk_below (gK BK1148.out) hb); have n1_ := Aside0.mk (below_step (gB HB.out) hb); clear BK1148; clear HB; have BK1148 := n0_; have HB := n1_; clear n0_ n1_; (try clear hb); (try clear hb2); (try clear hk); (try clear hi); have hcz8_0 := cz_ BK1148.out 0 rfl; have hcz8_1 := cz_ BK1148.out 1 rfl; have hcz8_2 := cz_ BK1148.out 2 rfl; have hcz8_3 := cz_ BK1148.out 3 rfl; have hcz8_4 := cz_ BK1148.out 4 rfl; have hcz8_5 := cz_ BK1148.out 5 rfl; have hcz8_6 := cz_ BK1148.out 6 rfl; have hfz8_0 := blk_frozen BK1148.out 0; have hfz8_1 := blk_frozen BK1148.out 1; have hfz8_2 := blk_frozen BK1148.out 2; have hfz8_3 := blk_frozen BK1148.out 3; have hfz8_4 := blk_frozen BK1148.out 4; have hfz8_5 := blk_frozen BK1148.out 5; have hfz8_6 := blk_frozen BK1148.out 6) | ((with_reducible refine gate_callee (f := 99) rfl ?_); refine goesL_ (some 7) rfl rfl Try.func99 (by kernel_rfl) rfl #[.agg #[.int .i64 a0_0, .int .i64 a0_1, .slice A0_2 l0_2.length c0_2, .slice A0_3 l0_3.length c0_3, .int .i64 a0_4, .int .i64 a0_5, .slice A0_6 l0_6.length c0_6]] rfl (by (try simp only [List.map_toArray, List.map_cons, List.map_nil]); first | done | rfl | (simp only [List.length_drop, List.length_take]; rfl)) ?_; (with_reducible refine (spec_l6Text.calls k a0_0 a0_1 _ _ l0_2 _ _ l0_3 a0_4 a0_5 _ _ l0_6 t1150 _ ?side1 ?side2 ?side3 ?side4 ?side5 ?side6 A4.out).mono ?_); (case side1 => exact gC (Kd.C_below HR0_2.out HB.out)); (case side2 => exact HC0_2.out); (case side3 => exact gC (Kd.C_below HR0_3.out HB.out)); (case side4 => exact HC0_3.out); (case side5 => exact gC (Kd.C_below HR0_6.out HB.out)); (case side6 => exact HC0_6.out); rintro e w9 ⟨rfl, hb⟩; refine ⟨_, rfl, ?_⟩; have n0_ := Aside0.mk (blk_below (gK BK1148.out) hb); have n1_ := Aside0.mk (below_step (gB HB.out) hb); clear BK1148; clear HB; have BK1148 := n0_; have HB := n1_; clear n0_ n1_; (try clear hb); (try clear hb2); (try clear hk); (try clear hi)))
  go_ret
  exact ⟨by first | rfl | (simp [errW_none, errW_some] <;> rfl) | (simp [*, errW_none, errW_some] <;> rfl), by repeat (first | (with_reducible first | exact HB.out | apply below_alloc | apply pw_below_drewN | apply below_drew1 | refine below_set ?_ GE1148.out) | exact HB.out)⟩
 ·replace c3 := Bool.eq_false_iff.mpr c3
  subst c3
  have H1 : (some (⟨#[]⟩ : ByteArray)) = some r := by rw [if_neg (show ¬ (false = true) by decide)] at H; exact H
  clear H
  have H := H1
  clear H1
  obtain rfl := Option.some.inj H
  go_enter Try.func58, Try.ntmps58
  go_wp2_with (first | ((with_reducible refine gate_dst (N := 1) rfl ?_); refine box_event ?hg (N := 1) ?hd (cs := #[.int .i64 a0_0, .int .i64 a0_1, .slice A0_2 l0_2.length c0_2, .slice A0_3 l0_3.length c0_3, .int .i64 a0_4, .int .i64 a0_5, .slice A0_6 l0_6.length c0_6]) (t := 61) ?hr ?_; (case hd => rfl); (case hg => rfl); (case hr => first | (go_simp; done) | (go_simp; rfl)); intro gb1148 hg w10 hbox hb; have n0_ := Aside0.mk (below_step (gB HB.out) hb); have n1_ := Aside0.mk (hbox); have n2_ := Aside0.mk ((by rw [hg]; exact (below_size (gB HB.out)) : w.heap.size ≤ gb1148)); have n3_ := n2_; clear HB; have HB := n0_; have BK1148 := n1_; have GW1148 := n2_; have GE1148 := n3_; clear n0_ n1_ n2_ n3_; clear hb hbox hg; have hcz11_0 := cz_ BK1148.out 0 rfl; have hcz11_1 := cz_ BK1148.out 1 rfl; have hcz11_2 := cz_ BK1148.out 2 rfl; have hcz11_3 := cz_ BK1148.out 3 rfl; have hcz11_4 := cz_ BK1148.out 4 rfl; have hcz11_5 := cz_ BK1148.out 5 rfl; have hcz11_6 := cz_ BK1148.out 6 rfl; have hfz11_0 := blk_frozen BK1148.out 0; have hfz11_1 := blk_frozen BK1148.out 1; have hfz11_2 := blk_frozen BK1148.out 2; have hfz11_3 := blk_frozen BK1148.out 3; have hfz11_4 := blk_frozen BK1148.out 4; have hfz11_5 := blk_frozen BK1148.out 5; have hfz11_6 := blk_frozen BK1148.out 6) | ((with_reducible refine gate_callee (f := 51) rfl ?_); refine goesL_ (some 4) rfl rfl Try.func51 (by kernel_rfl) rfl #[.agg #[.int .i64 a0_0, .int .i64 a0_1, .slice A0_2 l0_2.length c0_2, .slice A0_3 l0_3.length c0_3, .int .i64 a0_4, .int .i64 a0_5, .slice A0_6 l0_6.length c0_6]] rfl (by (try simp only [List.map_toArray, List.map_cons, List.map_nil]); first | done | rfl | (simp only [List.length_drop, List.length_take]; rfl)) ?_; (with_reducible refine (spec_GetOk.calls k a0_0 a0_1 _ _ l0_2 _ _ l0_3 a0_4 a0_5 _ _ l0_6 false _ ?side1 ?side2 ?side3 ?side4 ?side5 ?side6 A2.out).mono ?_); (case side1 => exact gC (Kd.C_below HR0_2.out HB.out)); (case side2 => exact HC0_2.out); (case side3 => exact gC (Kd.C_below HR0_3.out HB.out)); (case side4 => exact HC0_3.out); (case side5 => exact gC (Kd.C_below HR0_6.out HB.out)); (case side6 => exact HC0_6.out); rintro e w12 ⟨rfl, hb⟩; refine ⟨_, rfl, ?_⟩; have n0_ := Aside0.mk (blk_below (gK BK1148.out) hb); have n1_ := Aside0.mk (below_step (gB HB.out) hb); clear BK1148; clear HB; have BK1148 := n0_; have HB := n1_; clear n0_ n1_; (try clear hb); (try clear hb2); (try clear hk); (try clear hi)))
  go_ret
  exact ⟨by first | rfl | (simp [errW_none, errW_some] <;> rfl) | (simp [*, errW_none, errW_some] <;> rfl), by repeat (first | (with_reducible first | exact HB.out | apply below_alloc | apply pw_below_drewN | apply below_drew1 | refine below_set ?_ GE1148.out) | exact HB.out)⟩

/-! ### impl_GetText: function 59 -/
def impl_GetText.l0 : Nat → ByteArray → Int → Int → Int → Int → List Int → List Int → Int → Int → List (S84) → Option (ByteArray)
 | 0, _, _, _, _, _, _, _, _, _, _ => none
 | k + 1, x3, x12, x13, x1152000, x1152001, x1152002, x1152003, x1152004, x1152005, x1152006 => if x13 < x12 then ((impl_Solver_get.f k x1152004 x1152005 x1152006 x13).bind fun bt1154 => (if x3.size + bt1154.1.size ≤ 9223372036854775807 then (impl_GetText.l0 k (x3 ++ bt1154.1) x12 (wrap64 (x13 + 1)) x1152000 x1152001 x1152002 x1152003 x1152004 x1152005 x1152006) else (none))) else (if 0 ≤ (mn (x3.size : Int) x1152000) then (if (mn (x3.size : Int) x1152000) ≤ (x3.size : Int) then (some (x3.extract 0 ((mn (x3.size : Int) x1152000) : Int).toNat)) else (none)) else (none))
def impl_GetText.f (k : Nat) (a0_0 : Int) (a0_1 : Int) (l0_2 : List Int) (l0_3 : List Int) (a0_4 : Int) (a0_5 : Int) (l0_6 : List (S84)) : Option (ByteArray) := (impl_GetOk.f k a0_0 a0_1 l0_2 l0_3 a0_4 a0_5 l0_6).bind fun t1152 => (if t1152 = true then ((impl_Solver_prefix.f k a0_4 a0_5 l0_6).bind fun t1153 => (impl_GetText.l0 k (⟨#[]⟩ : ByteArray) t1153 0 a0_0 a0_1 l0_2 l0_3 a0_4 a0_5 l0_6)) else (some (⟨#[]⟩ : ByteArray)))
theorem impl_GetText.mono_l : ∀ k, (∀ y0 y1 y2 y3 y4 y5 y6 y7 y8 y9, LeO (impl_GetText.l0 k y0 y1 y2 y3 y4 y5 y6 y7 y8 y9) (impl_GetText.l0 (k + 1) y0 y1 y2 y3 y4 y5 y6 y7 y8 y9))
 | 0 => fun _ _ _ _ _ _ _ _ _ _ r h => by simp [impl_GetText.l0] at h
 | k + 1 => by
  have ih0 := impl_GetText.mono_l k
  ·intro y0 y1 y2 y3 y4 y5 y6 y7 y8 y9
   unfold impl_GetText.l0
   repeat' first
   | (with_reducible exact ih0 _ _ _ _ _ _ _ _ _ _)
   | (with_reducible exact impl_GetOk.mono _ _ _ _ _ _ _ _)
   | (with_reducible exact impl_Solver_get.mono _ _ _ _ _)
   | (with_reducible exact impl_Solver_prefix.mono _ _ _ _)
   | (with_reducible exact LeO.refl _)
   | (with_reducible exact LeO.none _)
   | (with_reducible refine LeO.ite ?_ ?_)
   | (with_reducible refine LeO.bind ?_ (fun _ => ?_))
   | exact ih0 _ _ _ _ _ _ _ _ _ _
   | exact impl_GetOk.mono _ _ _ _ _ _ _ _
   | exact impl_Solver_get.mono _ _ _ _ _
   | exact impl_Solver_prefix.mono _ _ _ _
   | exact LeO.none _
   | refine LeO.ite ?_ ?_
   | refine LeO.bind ?_ (fun _ => ?_)
theorem impl_GetText.mono : ∀ a0 a1 a2 a3 a4 a5 a6 k, LeO (impl_GetText.f k a0 a1 a2 a3 a4 a5 a6) (impl_GetText.f (k + 1) a0 a1 a2 a3 a4 a5 a6) := by
 intro a0 a1 a2 a3 a4 a5 a6 k
 have ih0 := impl_GetText.mono_l k
 unfold impl_GetText.f
 repeat' first
  | (with_reducible exact ih0 _ _ _ _ _ _ _ _ _ _)
  | (with_reducible exact impl_GetOk.mono _ _ _ _ _ _ _ _)
  | (with_reducible exact impl_Solver_get.mono _ _ _ _ _)
  | (with_reducible exact impl_Solver_prefix.mono _ _ _ _)
  | (with_reducible exact LeO.refl _)
  | (with_reducible exact LeO.none _)
  | (with_reducible refine LeO.ite ?_ ?_)
  | (with_reducible refine LeO.bind ?_ (fun _ => ?_))
  | exact ih0 _ _ _ _ _ _ _ _ _ _
  | exact impl_GetOk.mono _ _ _ _ _ _ _ _
  | exact impl_Solver_get.mono _ _ _ _ _
  | exact impl_Solver_prefix.mono _ _ _ _
  | exact LeO.none _
  | refine LeO.ite ?_ ?_
  | refine LeO.bind ?_ (fun _ => ?_)
set_option maxHeartbeats 8000000 in
set_option maxRecDepth 100000 in
theorem impl_GetText.calls (k : Nat) (a0_0 : Int) (a0_1 : Int) (A0_2 : Option Addr) (c0_2 : Nat) (l0_2 : List Int) (A0_3 : Option Addr) (c0_3 : Nat) (l0_3 : List Int) (a0_4 : Int) (a0_5 : Int) (A0_6 : Option Addr) (c0_6 : Nat) (l0_6 : List (S84)) (r : ByteArray) (w : World) (hr0_2 : Kd.C (Kd.int .i64) w A0_2 l0_2.length l0_2) (hc0_2 : l0_2.length ≤ c0_2) (hr0_3 : Kd.C (Kd.int .i64) w A0_3 l0_3.length l0_3) (hc0_3 : l0_3.length ≤ c0_3) (hr0_6 : Kd.C k84 w A0_6 l0_6.length l0_6) (hc0_6 : l0_6.length ≤ c0_6) (h : impl_GetText.f k a0_0 a0_1 l0_2 l0_3 a0_4 a0_5 l0_6 = some r) :
 Calls Try.prog 59 #[.agg #[.int .i64 a0_0, .int .i64 a0_1, .slice A0_2 l0_2.length c0_2, .slice A0_3 l0_3.length c0_3, .int .i64 a0_4, .int .i64 a0_5, .slice A0_6 l0_6.length c0_6]] w fun e w' => e = .returned (.string r) ∧ Below w.heap.size w w' := by
 have hu61 := Try.underlying61
 have hu37 := Try.underlying37
 have HR0_2 := Aside0.mk hr0_2
 have HC0_2 := Aside0.mk hc0_2
 clear hr0_2 hc0_2
 have HR0_3 := Aside0.mk hr0_3
 have HC0_3 := Aside0.mk hc0_3
 clear hr0_3 hc0_3
 have HR0_6 := Aside0.mk hr0_6
 have HC0_6 := Aside0.mk hc0_6
 clear hr0_6 hc0_6
 have HB := Aside0.mk (Below.refl w.heap.size w)
 have H : ((impl_GetOk.f k a0_0 a0_1 l0_2 l0_3 a0_4 a0_5 l0_6).bind fun t1152 => (if t1152 = true then ((impl_Solver_prefix.f k a0_4 a0_5 l0_6).bind fun t1153 => (impl_GetText.l0 k (⟨#[]⟩ : ByteArray) t1153 0 a0_0 a0_1 l0_2 l0_3 a0_4 a0_5 l0_6)) else (some (⟨#[]⟩ : ByteArray)))) = some r := h
 clear h
 replace H := bI_ H
 obtain ⟨t1152, A20, H⟩ := H
 replace H : (if t1152 = true then ((impl_Solver_prefix.f k a0_4 a0_5 l0_6).bind fun t1153 => (impl_GetText.l0 k (⟨#[]⟩ : ByteArray) t1153 0 a0_0 a0_1 l0_2 l0_3 a0_4 a0_5 l0_6)) else (some (⟨#[]⟩ : ByteArray))) = some r := H
 have A2 := Aside0.mk A20
 clear A20
 by_cases c3 : t1152 = true
 ·subst c3
  have H1 : ((impl_Solver_prefix.f k a0_4 a0_5 l0_6).bind fun t1153 => (impl_GetText.l0 k (⟨#[]⟩ : ByteArray) t1153 0 a0_0 a0_1 l0_2 l0_3 a0_4 a0_5 l0_6)) = some r := by rw [if_pos rfl] at H; exact H
  clear H
  have H := H1
  clear H1
  replace H := bI_ H
  obtain ⟨t1153, A40, H⟩ := H
  replace H : (impl_GetText.l0 k (⟨#[]⟩ : ByteArray) t1153 0 a0_0 a0_1 l0_2 l0_3 a0_4 a0_5 l0_6) = some r := H
  have A4 := Aside0.mk A40
  clear A40
  have H' := Aside0.mk H
  clear H
  go_enter Try.func59, Try.ntmps59
  go_wp2_with (first | ((with_reducible refine gate_dst (N := 1) rfl ?_); refine box_event ?hg (N := 1) ?hd (cs := #[.int .i64 a0_0, .int .i64 a0_1, .slice A0_2 l0_2.length c0_2, .slice A0_3 l0_3.length c0_3, .int .i64 a0_4, .int .i64 a0_5, .slice A0_6 l0_6.length c0_6]) (t := 61) ?hr ?_; (case hd => rfl); (case hg => rfl); (case hr => first | (go_simp; done) | (go_simp; rfl)); intro gb1151 hg w5 hbox hb; have n0_ := Aside0.mk (below_step (gB HB.out) hb); have n1_ := Aside0.mk (hbox); have n2_ := Aside0.mk ((by rw [hg]; exact (below_size (gB HB.out)) : w.heap.size ≤ gb1151)); have n3_ := n2_; clear HB; have HB := n0_; have BK1151 := n1_; have GW1151 := n2_; have GE1151 := n3_; clear n0_ n1_ n2_ n3_; clear hb hbox hg; have hcz6_0 := cz_ BK1151.out 0 rfl; have hcz6_1 := cz_ BK1151.out 1 rfl; have hcz6_2 := cz_ BK1151.out 2 rfl; have hcz6_3 := cz_ BK1151.out 3 rfl; have hcz6_4 := cz_ BK1151.out 4 rfl; have hcz6_5 := cz_ BK1151.out 5 rfl; have hcz6_6 := cz_ BK1151.out 6 rfl; have hfz6_0 := blk_frozen BK1151.out 0; have hfz6_1 := blk_frozen BK1151.out 1; have hfz6_2 := blk_frozen BK1151.out 2; have hfz6_3 := blk_frozen BK1151.out 3; have hfz6_4 := blk_frozen BK1151.out 4; have hfz6_5 := blk_frozen BK1151.out 5; have hfz6_6 := blk_frozen BK1151.out 6) | ((with_reducible refine gate_callee (f := 53) rfl ?_); refine goesL_ (some 8) rfl rfl Try.func53 (by kernel_rfl) rfl #[.agg #[.int .i64 a0_0, .int .i64 a0_1, .slice A0_2 l0_2.length c0_2, .slice A0_3 l0_3.length c0_3, .int .i64 a0_4, .int .i64 a0_5, .slice A0_6 l0_6.length c0_6]] rfl (by (try simp only [List.map_toArray, List.map_cons, List.map_nil]); first | done | rfl | (simp only [List.length_drop, List.length_take]; rfl)) ?_; (with_reducible refine (impl_GetOk.calls k a0_0 a0_1 _ _ l0_2 _ _ l0_3 a0_4 a0_5 _ _ l0_6 true _ ?side1 ?side2 ?side3 ?side4 ?side5 ?side6 A2.out).mono ?_); (case side1 => exact gC (Kd.C_below HR0_2.out HB.out)); (case side2 => exact HC0_2.out); (case side3 => exact gC (Kd.C_below HR0_3.out HB.out)); (case side4 => exact HC0_3.out); (case side5 => exact gC (Kd.C_below HR0_6.out HB.out)); (case side6 => exact HC0_6.out); rintro e w7 ⟨rfl, hb⟩; refine ⟨_, rfl, ?_⟩; have n0_ := Aside0.mk (blk_below (gK BK1151.out) hb); have n1_ := Aside0.mk (below_step (gB HB.out) hb); clear BK1151; clear HB; have BK1151 := n0_; have HB := n1_; clear n0_ n1_; (try clear hb); (try clear hb2); (try clear hk); (try clear hi); have hcz8_0 := cz_ BK1151.out 0 rfl; have hcz8_1 := cz_ BK1151.out 1 rfl; have hcz8_2 := cz_ BK1151.out 2 rfl; have hcz8_3 := cz_ BK1151.out 3 rfl; have hcz8_4 := cz_ BK1151.out 4 rfl; have hcz8_5 := cz_ BK1151.out 5 rfl; have hcz8_6 := cz_ BK1151.out 6 rfl; have hfz8_0 := blk_frozen BK1151.out 0; have hfz8_1 := blk_frozen BK1151.out 1; have hfz8_2 := blk_frozen BK1151.out 2; have hfz8_3 := blk_frozen BK1151.out 3; have hfz8_4 := blk_frozen BK1151.out 4; have hfz8_5 := blk_frozen BK1151.out 5; have hfz8_6 := blk_frozen BK1151.out 6) | ((with_reducible refine gate_callee (f := 87) rfl ?_); refine goesL_ (some 12) rfl rfl Try.func87 (by kernel_rfl) rfl #[.agg #[.int .i64 a0_4, .int .i64 a0_5, .slice A0_6 l0_6.length c0_6]] rfl (by (try simp only [List.map_toArray, List.map_cons, List.map_nil]); first | done | rfl | (simp only [List.length_drop, List.length_take]; rfl)) ?_; (with_reducible refine (impl_Solver_prefix.calls k a0_4 a0_5 _ _ l0_6 t1153 _ ?side1 ?side2 A4.out).mono ?_); (case side1 => exact gC (Kd.C_below HR0_6.out HB.out)); (case side2 => exact HC0_6.out); rintro e w9 ⟨rfl, hb⟩; refine ⟨_, rfl, ?_⟩; have n0_ := Aside0.mk (blk_below (gK BK1151.out) hb); have n1_ := Aside0.mk (below_step (gB HB.out) hb); clear BK1151; clear HB; have BK1151 := n0_; have HB := n1_; clear n0_ n1_; (try clear hb); (try clear hb2); (try clear hk); (try clear hi)))
  go_loopg [3, 13] k (fun kq v3 v13 w' => ∃ (x3_1 : ByteArray) (x13_1 : Int), v3 = .string x3_1 ∧ v13 = .int .i64 x13_1 ∧ Aside0 (impl_GetText.l0 kq x3_1 t1153 x13_1 a0_0 a0_1 l0_2 l0_3 a0_4 a0_5 l0_6 = some r) ∧ Aside0 (kq ≤ k) ∧ Aside0 (w'.heap[gb1151]? = some (.cells #[.int .i64 a0_0, .int .i64 a0_1, (.slice A0_2 l0_2.length c0_2), (.slice A0_3 l0_3.length c0_3), .int .i64 a0_4, .int .i64 a0_5, (.slice A0_6 l0_6.length c0_6)] 61 (0, 0))) ∧ Aside0 (Below w.heap.size w w'))
  case atStart => exact ⟨((⟨#[]⟩ : ByteArray)), (0), (by first | rfl | (simp; done) | (simp [*]; done) | (simp [wrap64]; done)), (by first | rfl | (simp; done) | (simp [*]; done) | (simp [wrap64]; done)), H', ⟨Nat.le_refl _⟩, ⟨by (with_reducible repeat (first | refine blk_drewN ?_ _ | refine blk_drew ?_ | refine blk_alloc ?_ _)); exact BK1151.out⟩, ⟨by repeat (first | (with_reducible first | exact HB.out | apply below_alloc | apply pw_below_drewN | apply below_drew1 | refine below_set ?_ GE1151.out) | exact HB.out)⟩⟩
  case round =>
   clear H'
   try clear p2
   try clear c3
   try clear c5
   try clear c8
   try clear hcz6_0
   try clear hcz6_1
   try clear hcz6_2
   try clear hcz6_3
   try clear hcz6_4
   try clear hcz6_5
   try clear hcz6_6
   try clear hcz8_0
   try clear hcz8_1
   try clear hcz8_2
   try clear hcz8_3
   try clear hcz8_4
   try clear hcz8_5
   try clear hcz8_6
   try clear hfz6_0
   try clear hfz6_1
   try clear hfz6_2
   try clear hfz6_3
   try clear hfz6_4
   try clear hfz6_5
   try clear hfz6_6
   try clear hfz8_0
   try clear hfz8_1
   try clear hfz8_2
   try clear hfz8_3
   try clear hfz8_4
   try clear hfz8_5
   try clear hfz8_6
   obtain ⟨x3_1, x13_1, rfl, rfl, HA, HK1, BK1151, HB⟩ := hrel
   cases gk with
   | zero => exact absurd HA.out (by simp [impl_GetText.l0])
   | succ k1 =>
    have H := HA.out
    clear HA
    simp only [impl_GetText.l0] at H
    by_cases c10 : x13_1 < t1153
    ·rw [if_pos c10] at H
     have c10b0 : decide (x13_1 < t1153) = true := decide_eq_true c10
     clear c10
     replace H := bI_ H
     obtain ⟨⟨t1154, t1155⟩, A110, H⟩ := H
     replace H : (if x3_1.size + t1154.size ≤ 9223372036854775807 then (impl_GetText.l0 k1 (x3_1 ++ t1154) t1153 (wrap64 (x13_1 + 1)) a0_0 a0_1 l0_2 l0_3 a0_4 a0_5 l0_6) else (none)) = some r := H
     have A11 := Aside0.mk A110
     clear A110
     by_cases c12 : x3_1.size + t1154.size ≤ 9223372036854775807
     ·rw [if_pos c12] at H
      have c12b0 := eq_true c12
      have c12b1 : decide (x3_1.size + t1154.size ≤ 9223372036854775807) = true := decide_eq_true c12
      try have c12b2 : (9223372036854775807 < x3_1.size + t1154.size) = False := eq_false (Nat.not_lt.2 c12)
      have H' := Aside0.mk H
      clear H
      have hcz13_0 := cz_ BK1151.out 0 rfl
      have hcz13_1 := cz_ BK1151.out 1 rfl
      have hcz13_2 := cz_ BK1151.out 2 rfl
      have hcz13_3 := cz_ BK1151.out 3 rfl
      have hcz13_4 := cz_ BK1151.out 4 rfl
      have hcz13_5 := cz_ BK1151.out 5 rfl
      have hcz13_6 := cz_ BK1151.out 6 rfl
      have hfz13_0 := blk_frozen BK1151.out 0
      have hfz13_1 := blk_frozen BK1151.out 1
      have hfz13_2 := blk_frozen BK1151.out 2
      have hfz13_3 := blk_frozen BK1151.out 3
      have hfz13_4 := blk_frozen BK1151.out 4
      have hfz13_5 := blk_frozen BK1151.out 5
      have hfz13_6 := blk_frozen BK1151.out 6
      go_wp2_with (first | ((with_reducible refine gate_callee (f := 85) rfl ?_); refine goesL_ (some 20) rfl rfl Try.func85 (by kernel_rfl) rfl #[.agg #[.int .i64 a0_4, .int .i64 a0_5, .slice A0_6 l0_6.length c0_6], .int .i64 x13_1] rfl (by (try simp only [List.map_toArray, List.map_cons, List.map_nil]); first | done | rfl | (simp only [List.length_drop, List.length_take]; rfl)) ?_; (with_reducible refine (impl_Solver_get.calls k1 a0_4 a0_5 _ _ l0_6 x13_1 t1154 t1155 _ ?side1 ?side2 A11.out).mono ?_); (case side1 => exact gC (Kd.C_below HR0_6.out HB.out)); (case side2 => exact HC0_6.out); rintro e w14 ⟨rfl, hb⟩; refine ⟨_, rfl, ?_⟩; have n0_ := Aside0.mk (blk_below (gK BK1151.out) hb); have n1_ := Aside0.mk (below_step (gB HB.out) hb); clear BK1151; clear HB; have BK1151 := n0_; have HB := n1_; clear n0_ n1_; (try clear hb); (try clear hb2); (try clear hk); (try clear hi)))
      go_roundg k1
      case measure => have := HK1.out; omega
      case rel => exact ⟨(x3_1 ++ t1154), (wrap64 (x13_1 + 1)), (by first | rfl | (simp; done) | (simp [*]; done) | (simp [wrap64]; done)), (by first | rfl | (simp; done) | (simp [*]; done) | (simp [wrap64]; done)), H', ⟨by have := HK1.out; omega⟩, ⟨by (with_reducible repeat (first | refine blk_drewN ?_ _ | refine blk_drew ?_ | refine blk_alloc ?_ _)); exact BK1151.out⟩, ⟨by repeat (first | (with_reducible first | exact HB.out | apply below_alloc | apply pw_below_drewN | apply below_drew1 | refine below_set ?_ GE1151.out) | exact HB.out)⟩⟩
     ·rw [if_neg c12] at H
      exact absurd H (by simp)
    ·rw [if_neg c10] at H
     have c10b0 : decide (x13_1 < t1153) = false := decide_eq_false c10
     clear c10
     obtain ⟨ji15, hji15⟩ : ∃ j_ : Int, (mn (x3_1.size : Int) a0_0) = j_ := ⟨_, rfl⟩
     replace H : (if 0 ≤ (ji15) then (if (ji15) ≤ (x3_1.size : Int) then (some (x3_1.extract 0 ((ji15) : Int).toNat)) else (none)) else (none)) = some r := by first | (rw [hji15] at H; exact H) | (simp only [hji15] at H ⊢; exact H)
     have hji15_ : (if a0_0 < (x3_1.size : Int) then a0_0 else (x3_1.size : Int)) = ji15 := hji15
     by_cases c16 : 0 ≤ (ji15)
     ·rw [if_pos c16] at H
      have c16b0 := eq_true c16
      have c16b1 : decide (0 ≤ (ji15)) = true := decide_eq_true c16
      clear c16
      by_cases c17 : (ji15) ≤ (x3_1.size : Int)
      ·rw [if_pos c17] at H
       have c17b0 := eq_true c17
       have c17b1 : decide ((ji15) ≤ (x3_1.size : Int)) = true := decide_eq_true c17
       clear c17
       obtain rfl := Option.some.inj H
       have hcz18_0 := cz_ BK1151.out 0 rfl
       have hcz18_1 := cz_ BK1151.out 1 rfl
       have hcz18_2 := cz_ BK1151.out 2 rfl
       have hcz18_3 := cz_ BK1151.out 3 rfl
       have hcz18_4 := cz_ BK1151.out 4 rfl
       have hcz18_5 := cz_ BK1151.out 5 rfl
       have hcz18_6 := cz_ BK1151.out 6 rfl
       have hfz18_0 := blk_frozen BK1151.out 0
       have hfz18_1 := blk_frozen BK1151.out 1
       have hfz18_2 := blk_frozen BK1151.out 2
       have hfz18_3 := blk_frozen BK1151.out 3
       have hfz18_4 := blk_frozen BK1151.out 4
       have hfz18_5 := blk_frozen BK1151.out 5
       have hfz18_6 := blk_frozen BK1151.out 6
       go_wp2
       go_ret
       exact ⟨by first | rfl | (simp [errW_none, errW_some] <;> rfl) | (simp only [← hji15]; first | rfl | (simp [errW_none, errW_some] <;> rfl)) | (simp [*, errW_none, errW_some] <;> rfl), by repeat (first | (with_reducible first | exact HB.out | apply below_alloc | apply pw_below_drewN | apply below_drew1 | refine below_set ?_ GE1151.out) | exact HB.out)⟩
      ·rw [if_neg c17] at H
       exact absurd H (by simp)
     ·rw [if_neg c16] at H
      exact absurd H (by simp)
 ·replace c3 := Bool.eq_false_iff.mpr c3
  subst c3
  have H1 : (some (⟨#[]⟩ : ByteArray)) = some r := by rw [if_neg (show ¬ (false = true) by decide)] at H; exact H
  clear H
  have H := H1
  clear H1
  obtain rfl := Option.some.inj H
  go_enter Try.func59, Try.ntmps59
  go_wp2_with (first | ((with_reducible refine gate_dst (N := 1) rfl ?_); refine box_event ?hg (N := 1) ?hd (cs := #[.int .i64 a0_0, .int .i64 a0_1, .slice A0_2 l0_2.length c0_2, .slice A0_3 l0_3.length c0_3, .int .i64 a0_4, .int .i64 a0_5, .slice A0_6 l0_6.length c0_6]) (t := 61) ?hr ?_; (case hd => rfl); (case hg => rfl); (case hr => first | (go_simp; done) | (go_simp; rfl)); intro gb1151 hg w19 hbox hb; have n0_ := Aside0.mk (below_step (gB HB.out) hb); have n1_ := Aside0.mk (hbox); have n2_ := Aside0.mk ((by rw [hg]; exact (below_size (gB HB.out)) : w.heap.size ≤ gb1151)); have n3_ := n2_; clear HB; have HB := n0_; have BK1151 := n1_; have GW1151 := n2_; have GE1151 := n3_; clear n0_ n1_ n2_ n3_; clear hb hbox hg; have hcz20_0 := cz_ BK1151.out 0 rfl; have hcz20_1 := cz_ BK1151.out 1 rfl; have hcz20_2 := cz_ BK1151.out 2 rfl; have hcz20_3 := cz_ BK1151.out 3 rfl; have hcz20_4 := cz_ BK1151.out 4 rfl; have hcz20_5 := cz_ BK1151.out 5 rfl; have hcz20_6 := cz_ BK1151.out 6 rfl; have hfz20_0 := blk_frozen BK1151.out 0; have hfz20_1 := blk_frozen BK1151.out 1; have hfz20_2 := blk_frozen BK1151.out 2; have hfz20_3 := blk_frozen BK1151.out 3; have hfz20_4 := blk_frozen BK1151.out 4; have hfz20_5 := blk_frozen BK1151.out 5; have hfz20_6 := blk_frozen BK1151.out 6) | ((with_reducible refine gate_callee (f := 53) rfl ?_); refine goesL_ (some 8) rfl rfl Try.func53 (by kernel_rfl) rfl #[.agg #[.int .i64 a0_0, .int .i64 a0_1, .slice A0_2 l0_2.length c0_2, .slice A0_3 l0_3.length c0_3, .int .i64 a0_4, .int .i64 a0_5, .slice A0_6 l0_6.length c0_6]] rfl (by (try simp only [List.map_toArray, List.map_cons, List.map_nil]); first | done | rfl | (simp only [List.length_drop, List.length_take]; rfl)) ?_; (with_reducible refine (impl_GetOk.calls k a0_0 a0_1 _ _ l0_2 _ _ l0_3 a0_4 a0_5 _ _ l0_6 false _ ?side1 ?side2 ?side3 ?side4 ?side5 ?side6 A2.out).mono ?_); (case side1 => exact gC (Kd.C_below HR0_2.out HB.out)); (case side2 => exact HC0_2.out); (case side3 => exact gC (Kd.C_below HR0_3.out HB.out)); (case side4 => exact HC0_3.out); (case side5 => exact gC (Kd.C_below HR0_6.out HB.out)); (case side6 => exact HC0_6.out); rintro e w21 ⟨rfl, hb⟩; refine ⟨_, rfl, ?_⟩; have n0_ := Aside0.mk (blk_below (gK BK1151.out) hb); have n1_ := Aside0.mk (below_step (gB HB.out) hb); clear BK1151; clear HB; have BK1151 := n0_; have HB := n1_; clear n0_ n1_; (try clear hb); (try clear hb2); (try clear hk); (try clear hi)))
  go_ret
  exact ⟨by first | rfl | (simp [errW_none, errW_some] <;> rfl) | (simp [*, errW_none, errW_some] <;> rfl), by repeat (first | (with_reducible first | exact HB.out | apply below_alloc | apply pw_below_drewN | apply below_drew1 | refine below_set ?_ GE1151.out) | exact HB.out)⟩

end Go.Proofs.Ytaeeickboakmgaa.X
