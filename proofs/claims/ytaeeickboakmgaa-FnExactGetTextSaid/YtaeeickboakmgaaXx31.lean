/- Printed for this claim by the session's program (the kit's printer, several laws in one place): the functions that the law reaches, each as a plain Lean function, and the proof that the Go code comes to its answers. Conditions: none beside those that each theorem states. -/
import Derived.Test.YtaeeickboakmgaaXx0
import Derived.Test.YtaeeickboakmgaaWAll
namespace Go.Proofs.Ytaeeickboakmgaa.X
open Go.RowKit Go.Proofs.YtaeeickboakmgaaW.PrintWords Go.Proofs.YtaeeickboakmgaaW.PrintLast Go.Proofs.YtaeeickboakmgaaW.PrintStep Go.Proofs.YtaeeickboakmgaaW.PrintMore
attribute [local go_sem] max2_int min2_int max_two min_two max_three min_three max_four min_four   -- for this text's walks alone
set_option linter.unusedVariables false
set_option linter.unusedSimpArgs false

/-! ### spec_l3Get: function 84 -/
def spec_l3Get.l0 : Nat → Int → Int → Int → Int → List (S84) → Option (ByteArray × Bool)
 | 0, _, _, _, _, _ => none
 | k + 1, x1, x6, x720000, x720001, x720002 => if x6 < (x720002.length : Int) then (if 0 ≤ x6 then (if (((rd_T84 x720002 x6).f0).length : Int) = 1 then (if 0 < (((rd_T84 x720002 x6).f0).length : Int) then (if (rd ((rd_T84 x720002 x6).f0) 0) = x1 then (some ((rd_T84 x720002 x6).f1, true)) else (spec_l3Get.l0 k x1 (wrap64 (x6 + 1)) x720000 x720001 x720002)) else (none)) else (spec_l3Get.l0 k x1 (wrap64 (x6 + 1)) x720000 x720001 x720002)) else (none)) else (some ((⟨#[]⟩ : ByteArray), false))
def spec_l3Get.f (k : Nat) (a0_0 : Int) (a0_1 : Int) (l0_2 : List (S84)) (a1 : Int) : Option (ByteArray × Bool) := spec_l3Get.l0 k a1 0 a0_0 a0_1 l0_2
theorem spec_l3Get.mono_l : ∀ k, (∀ y0 y1 y2 y3 y4, LeO (spec_l3Get.l0 k y0 y1 y2 y3 y4) (spec_l3Get.l0 (k + 1) y0 y1 y2 y3 y4))
 | 0 => fun _ _ _ _ _ r h => by simp [spec_l3Get.l0] at h
 | k + 1 => by
  have ih0 := spec_l3Get.mono_l k
  ·intro y0 y1 y2 y3 y4
   unfold spec_l3Get.l0
   repeat' first
   | (with_reducible exact ih0 _ _ _ _ _)
   | (with_reducible exact LeO.refl _)
   | (with_reducible exact LeO.none _)
   | (with_reducible refine LeO.ite ?_ ?_)
   | (with_reducible refine LeO.bind ?_ (fun _ => ?_))
   | exact ih0 _ _ _ _ _
   | exact LeO.none _
   | refine LeO.ite ?_ ?_
   | refine LeO.bind ?_ (fun _ => ?_)
theorem spec_l3Get.mono : ∀ a0 a1 a2 a3 k, LeO (spec_l3Get.f k a0 a1 a2 a3) (spec_l3Get.f (k + 1) a0 a1 a2 a3) := by
 intro a0 a1 a2 a3 k
 have ih0 := spec_l3Get.mono_l k
 unfold spec_l3Get.f
 repeat' first
  | (with_reducible exact ih0 _ _ _ _ _)
  | (with_reducible exact LeO.refl _)
  | (with_reducible exact LeO.none _)
  | (with_reducible refine LeO.ite ?_ ?_)
  | (with_reducible refine LeO.bind ?_ (fun _ => ?_))
  | exact ih0 _ _ _ _ _
  | exact LeO.none _
  | refine LeO.ite ?_ ?_
  | refine LeO.bind ?_ (fun _ => ?_)
set_option maxHeartbeats 8000000 in
set_option maxRecDepth 100000 in
theorem spec_l3Get.calls (k : Nat) (a0_0 : Int) (a0_1 : Int) (A0_2 : Option Addr) (c0_2 : Nat) (l0_2 : List (S84)) (a1 : Int) (r1 : ByteArray) (r2 : Bool) (w : World) (hr0_2 : Kd.C k84 w A0_2 l0_2.length l0_2) (hc0_2 : l0_2.length ≤ c0_2) (h : spec_l3Get.f k a0_0 a0_1 l0_2 a1 = some (r1, r2)) :
 Calls Try.prog 84 #[.agg #[.int .i64 a0_0, .int .i64 a0_1, .slice A0_2 l0_2.length c0_2], .int .i64 a1] w fun e w' => e = .returned (.tuple #[.string r1, .bool r2]) ∧ Below w.heap.size w w' := by
 have hu37 := Try.underlying37
 have HR0_2 := Aside0.mk hr0_2
 have HC0_2 := Aside0.mk hc0_2
 clear hr0_2 hc0_2
 have HB := Aside0.mk (Below.refl w.heap.size w)
 have H : (spec_l3Get.l0 k a1 0 a0_0 a0_1 l0_2) = some (r1, r2) := h
 clear h
 have H' := Aside0.mk H
 clear H
 go_enter Try.func84, Try.ntmps84
 go_wp2_with (first | ((with_reducible refine gate_dst (N := 2) rfl ?_); refine box_event ?hg (N := 2) ?hd (cs := #[.int .i64 a0_0, .int .i64 a0_1, .slice A0_2 l0_2.length c0_2]) (t := 37) ?hr ?_; (case hd => rfl); (case hg => rfl); (case hr => first | (go_simp; done) | (go_simp; rfl)); intro gb719 hg w3 hbox hb; have n0_ := Aside0.mk (below_step (gB HB.out) hb); have n1_ := Aside0.mk (hbox); have n2_ := Aside0.mk ((by rw [hg]; exact (below_size (gB HB.out)) : w.heap.size ≤ gb719)); have n3_ := n2_; clear HB; have HB := n0_; have BK719 := n1_; have GW719 := n2_; have GE719 := n3_; clear n0_ n1_ n2_ n3_; clear hb hbox hg))
 go_loopg [6] k (fun kq v6 w' => ∃ (x6_1 : Int), v6 = .int .i64 x6_1 ∧ Aside0 (spec_l3Get.l0 kq a1 x6_1 a0_0 a0_1 l0_2 = some (r1, r2)) ∧ Aside0 (kq ≤ k) ∧ Aside0 (w'.heap[gb719]? = some (.cells #[.int .i64 a0_0, .int .i64 a0_1, (.slice A0_2 l0_2.length c0_2)] 37 (0, 0))) ∧ Aside0 (Below w.heap.size w w'))
 case atStart => exact ⟨(0), (by first | rfl | (simp; done) | (simp [*]; done) | (simp [wrap64]; done)), H', ⟨Nat.le_refl _⟩, ⟨by (with_reducible repeat (first | refine blk_drewN ?_ _ | refine blk_drew ?_ | refine blk_alloc ?_ _)); exact BK719.out⟩, ⟨by repeat (first | (with_reducible first | exact HB.out | apply below_alloc | apply pw_below_drewN | apply below_drew1 | refine below_set ?_ GE719.out) | exact HB.out)⟩⟩
 case round =>
  clear H'
  try clear p2
  obtain ⟨x6_1, rfl, HA, HK1, BK719, HB⟩ := hrel
  cases gk with
  | zero => exact absurd HA.out (by simp [spec_l3Get.l0])
  | succ k1 =>
   have H := HA.out
   clear HA
   simp only [spec_l3Get.l0] at H
   by_cases c4 : x6_1 < (l0_2.length : Int)
   ·rw [if_pos c4] at H
    have c4b0 : decide (x6_1 < (l0_2.length : Int)) = true := decide_eq_true c4
    clear c4
    by_cases c5 : 0 ≤ x6_1
    ·rw [if_pos c5] at H
     have c5b0 : decide (0 ≤ x6_1) = true := decide_eq_true c5
     clear c5
     by_cases c6 : (((rd_T84 l0_2 x6_1).f0).length : Int) = 1
     ·rw [if_pos c6] at H
      have c6b0 : ((((rd_T84 l0_2 x6_1).f0).length : Int) == 1) = true := beq_iff_eq.mpr c6
      have c6b1 : ((((rd_T84 l0_2 x6_1).f0).length : Int) != 1) = false := bne_eq_false_iff_eq.mpr c6
      clear c6
      by_cases c7 : 0 < (((rd_T84 l0_2 x6_1).f0).length : Int)
      ·rw [if_pos c7] at H
       have c7b0 : decide (0 < (((rd_T84 l0_2 x6_1).f0).length : Int)) = true := decide_eq_true c7
       have c7b1 : decide (0 < ((rd_T84 l0_2 x6_1).f0).length) = true := decide_eq_true (by omega)
       clear c7
       by_cases c8 : (rd ((rd_T84 l0_2 x6_1).f0) 0) = a1
       ·rw [if_pos c8] at H
        have c8b0 : ((rd ((rd_T84 l0_2 x6_1).f0) 0) == a1) = true := beq_iff_eq.mpr c8
        have c8b1 : ((rd ((rd_T84 l0_2 x6_1).f0) 0) != a1) = false := bne_eq_false_iff_eq.mpr c8
        clear c8
        simp only [Option.some.injEq, Prod.mk.injEq] at H
        obtain ⟨rfl, rfl⟩ := H
        have hcz9_0 := cz_ BK719.out 0 rfl
        have hcz9_1 := cz_ BK719.out 1 rfl
        have hcz9_2 := cz_ BK719.out 2 rfl
        have hfz9_0 := blk_frozen BK719.out 0
        have hfz9_1 := blk_frozen BK719.out 1
        have hfz9_2 := blk_frozen BK719.out 2
        have p720 : 0 ≤ (x6_1 : Int) := of_decide_eq_true (by first | (with_reducible assumption) | assumption)
        have q720 : x6_1 < (l0_2.length : Int) := of_decide_eq_true (by first | (with_reducible assumption) | assumption)
        obtain ⟨ad720, A720_0, c720_0, e720, hx720_0, hx720_1, hl720_0, hi720_0⟩ := at_T84 HR0_2.out x6_1 p720 q720
        cases e720
        replace hx720_0 := (HB.out.cell (World.block_lt_of_cell? w _ hx720_0)).trans hx720_0
        replace hx720_1 := (HB.out.cell (World.block_lt_of_cell? w _ hx720_1)).trans hx720_1
        have HR720_0 := Aside0.mk hi720_0
        have HC720_0 := Aside0.mk hl720_0
        clear hi720_0 hl720_0
        replace p720 := eq_true p720
        replace q720 := eq_true q720
        have p721 : 0 ≤ (x6_1 : Int) := of_decide_eq_true (by first | (with_reducible assumption) | assumption)
        have q721 : x6_1 < (l0_2.length : Int) := of_decide_eq_true (by first | (with_reducible assumption) | assumption)
        obtain ⟨ad721, A721_0, c721_0, e721, hx721_0, hx721_1, hl721_0, hi721_0⟩ := at_T84 HR0_2.out x6_1 p721 q721
        obtain rfl : ad720 = ad721 := (by injection e721)
        replace hx721_0 := (HB.out.cell (World.block_lt_of_cell? w _ hx721_0)).trans hx721_0
        replace hx721_1 := (HB.out.cell (World.block_lt_of_cell? w _ hx721_1)).trans hx721_1
        have HR721_0 := Aside0.mk hi721_0
        have HC721_0 := Aside0.mk hl721_0
        clear hi721_0 hl721_0
        replace p721 := eq_true p721
        replace q721 := eq_true q721
        have ea_ := Option.some.inj (hx720_0.symm.trans hx721_0)
        injection ea_ with ea_ en_ ec_
        subst ea_
        subst ec_
        clear en_
        have p722 : 0 ≤ (0 : Int) := (by omega)
        have q722 : 0 < (((rd_T84 l0_2 x6_1).f0).length : Int) := of_decide_eq_true (by first | (with_reducible assumption) | assumption)
        obtain ⟨ad722, e722, hx722_0⟩ := Kd.at_int HR721_0.out 0 p722 q722
        cases e722
        have qi722 : (0 < ((rd_T84 l0_2 x6_1).f0).length) = True := eq_true (by omega)
        (try rw [show ((0 : Int)).toNat = 0 from rfl] at hx722_0)
        (try rw [Addr.add_zero'] at hx722_0)
        replace hx722_0 := (HB.out.cell (World.block_lt_of_cell? w _ hx722_0)).trans hx722_0
        replace p722 := eq_true p722
        replace q722 := eq_true q722
        have p723 : 0 ≤ (x6_1 : Int) := of_decide_eq_true (by first | (with_reducible assumption) | assumption)
        have q723 : x6_1 < (l0_2.length : Int) := of_decide_eq_true (by first | (with_reducible assumption) | assumption)
        obtain ⟨ad723, A723_0, c723_0, e723, hx723_0, hx723_1, hl723_0, hi723_0⟩ := at_T84 HR0_2.out x6_1 p723 q723
        obtain rfl : ad720 = ad723 := (by injection e723)
        replace hx723_0 := (HB.out.cell (World.block_lt_of_cell? w _ hx723_0)).trans hx723_0
        replace hx723_1 := (HB.out.cell (World.block_lt_of_cell? w _ hx723_1)).trans hx723_1
        have HR723_0 := Aside0.mk hi723_0
        have HC723_0 := Aside0.mk hl723_0
        clear hi723_0 hl723_0
        replace p723 := eq_true p723
        replace q723 := eq_true q723
        have ea_ := Option.some.inj (hx720_0.symm.trans hx723_0)
        injection ea_ with ea_ en_ ec_
        subst ea_
        subst ec_
        clear en_
        go_wp2
        go_ret2
        exact ⟨by first | rfl | (simp [errW_none, errW_some] <;> rfl) | (simp [*, errW_none, errW_some] <;> rfl), by repeat (first | (with_reducible first | exact HB.out | apply below_alloc | apply pw_below_drewN | apply below_drew1 | refine below_set ?_ GE719.out) | exact HB.out)⟩
       ·rw [if_neg c8] at H
        have c8b0 : ((rd ((rd_T84 l0_2 x6_1).f0) 0) == a1) = false := beq_eq_false_iff_ne.mpr c8
        have c8b1 : ((rd ((rd_T84 l0_2 x6_1).f0) 0) != a1) = true := bne_iff_ne.mpr c8
        have H' := Aside0.mk H
        clear H
        have hcz10_0 := cz_ BK719.out 0 rfl
        have hcz10_1 := cz_ BK719.out 1 rfl
        have hcz10_2 := cz_ BK719.out 2 rfl
        have hfz10_0 := blk_frozen BK719.out 0
        have hfz10_1 := blk_frozen BK719.out 1
        have hfz10_2 := blk_frozen BK719.out 2
        have p720 : 0 ≤ (x6_1 : Int) := of_decide_eq_true (by first | (with_reducible assumption) | assumption)
        have q720 : x6_1 < (l0_2.length : Int) := of_decide_eq_true (by first | (with_reducible assumption) | assumption)
        obtain ⟨ad720, A720_0, c720_0, e720, hx720_0, hx720_1, hl720_0, hi720_0⟩ := at_T84 HR0_2.out x6_1 p720 q720
        cases e720
        replace hx720_0 := (HB.out.cell (World.block_lt_of_cell? w _ hx720_0)).trans hx720_0
        replace hx720_1 := (HB.out.cell (World.block_lt_of_cell? w _ hx720_1)).trans hx720_1
        have HR720_0 := Aside0.mk hi720_0
        have HC720_0 := Aside0.mk hl720_0
        clear hi720_0 hl720_0
        replace p720 := eq_true p720
        replace q720 := eq_true q720
        have p721 : 0 ≤ (x6_1 : Int) := of_decide_eq_true (by first | (with_reducible assumption) | assumption)
        have q721 : x6_1 < (l0_2.length : Int) := of_decide_eq_true (by first | (with_reducible assumption) | assumption)
        obtain ⟨ad721, A721_0, c721_0, e721, hx721_0, hx721_1, hl721_0, hi721_0⟩ := at_T84 HR0_2.out x6_1 p721 q721
        obtain rfl : ad720 = ad721 := (by injection e721)
        replace hx721_0 := (HB.out.cell (World.block_lt_of_cell? w _ hx721_0)).trans hx721_0
        replace hx721_1 := (HB.out.cell (World.block_lt_of_cell? w _ hx721_1)).trans hx721_1
        have HR721_0 := Aside0.mk hi721_0
        have HC721_0 := Aside0.mk hl721_0
        clear hi721_0 hl721_0
        replace p721 := eq_true p721
        replace q721 := eq_true q721
        have ea_ := Option.some.inj (hx720_0.symm.trans hx721_0)
        injection ea_ with ea_ en_ ec_
        subst ea_
        subst ec_
        clear en_
        have p722 : 0 ≤ (0 : Int) := (by omega)
        have q722 : 0 < (((rd_T84 l0_2 x6_1).f0).length : Int) := of_decide_eq_true (by first | (with_reducible assumption) | assumption)
        obtain ⟨ad722, e722, hx722_0⟩ := Kd.at_int HR721_0.out 0 p722 q722
        cases e722
        have qi722 : (0 < ((rd_T84 l0_2 x6_1).f0).length) = True := eq_true (by omega)
        (try rw [show ((0 : Int)).toNat = 0 from rfl] at hx722_0)
        (try rw [Addr.add_zero'] at hx722_0)
        replace hx722_0 := (HB.out.cell (World.block_lt_of_cell? w _ hx722_0)).trans hx722_0
        replace p722 := eq_true p722
        replace q722 := eq_true q722
        go_wp2
        go_roundg k1
        case measure => have := HK1.out; omega
        case rel => exact ⟨(wrap64 (x6_1 + 1)), (by first | rfl | (simp; done) | (simp [*]; done) | (simp [wrap64]; done)), H', ⟨by have := HK1.out; omega⟩, ⟨by (with_reducible repeat (first | refine blk_drewN ?_ _ | refine blk_drew ?_ | refine blk_alloc ?_ _)); exact BK719.out⟩, ⟨by repeat (first | (with_reducible first | exact HB.out | apply below_alloc | apply pw_below_drewN | apply below_drew1 | refine below_set ?_ GE719.out) | exact HB.out)⟩⟩
      ·rw [if_neg c7] at H
       exact absurd H (by simp)
     ·rw [if_neg c6] at H
      have c6b0 : ((((rd_T84 l0_2 x6_1).f0).length : Int) == 1) = false := beq_eq_false_iff_ne.mpr c6
      have c6b1 : ((((rd_T84 l0_2 x6_1).f0).length : Int) != 1) = true := bne_iff_ne.mpr c6
      have H' := Aside0.mk H
      clear H
      have hcz11_0 := cz_ BK719.out 0 rfl
      have hcz11_1 := cz_ BK719.out 1 rfl
      have hcz11_2 := cz_ BK719.out 2 rfl
      have hfz11_0 := blk_frozen BK719.out 0
      have hfz11_1 := blk_frozen BK719.out 1
      have hfz11_2 := blk_frozen BK719.out 2
      have p720 : 0 ≤ (x6_1 : Int) := of_decide_eq_true (by first | (with_reducible assumption) | assumption)
      have q720 : x6_1 < (l0_2.length : Int) := of_decide_eq_true (by first | (with_reducible assumption) | assumption)
      obtain ⟨ad720, A720_0, c720_0, e720, hx720_0, hx720_1, hl720_0, hi720_0⟩ := at_T84 HR0_2.out x6_1 p720 q720
      cases e720
      replace hx720_0 := (HB.out.cell (World.block_lt_of_cell? w _ hx720_0)).trans hx720_0
      replace hx720_1 := (HB.out.cell (World.block_lt_of_cell? w _ hx720_1)).trans hx720_1
      have HR720_0 := Aside0.mk hi720_0
      have HC720_0 := Aside0.mk hl720_0
      clear hi720_0 hl720_0
      replace p720 := eq_true p720
      replace q720 := eq_true q720
      go_wp2
      go_roundg k1
      case measure => have := HK1.out; omega
      case rel => exact ⟨(wrap64 (x6_1 + 1)), (by first | rfl | (simp; done) | (simp [*]; done) | (simp [wrap64]; done)), H', ⟨by have := HK1.out; omega⟩, ⟨by (with_reducible repeat (first | refine blk_drewN ?_ _ | refine blk_drew ?_ | refine blk_alloc ?_ _)); exact BK719.out⟩, ⟨by repeat (first | (with_reducible first | exact HB.out | apply below_alloc | apply pw_below_drewN | apply below_drew1 | refine below_set ?_ GE719.out) | exact HB.out)⟩⟩
    ·rw [if_neg c5] at H
     exact absurd H (by simp)
   ·rw [if_neg c4] at H
    have c4b0 : decide (x6_1 < (l0_2.length : Int)) = false := decide_eq_false c4
    clear c4
    simp only [Option.some.injEq, Prod.mk.injEq] at H
    obtain ⟨rfl, rfl⟩ := H
    have hcz12_0 := cz_ BK719.out 0 rfl
    have hcz12_1 := cz_ BK719.out 1 rfl
    have hcz12_2 := cz_ BK719.out 2 rfl
    have hfz12_0 := blk_frozen BK719.out 0
    have hfz12_1 := blk_frozen BK719.out 1
    have hfz12_2 := blk_frozen BK719.out 2
    go_wp2
    go_ret2
    exact ⟨by first | rfl | (simp [errW_none, errW_some] <;> rfl) | (simp [*, errW_none, errW_some] <;> rfl), by repeat (first | (with_reducible first | exact HB.out | apply below_alloc | apply pw_below_drewN | apply below_drew1 | refine below_set ?_ GE719.out) | exact HB.out)⟩

end Go.Proofs.Ytaeeickboakmgaa.X
