/- Printed for this claim by the session's program (the kit's printer, several laws in one place): the functions that the law reaches, each as a plain Lean function, and the proof that the Go code comes to its answers. Conditions: none beside those that each theorem states. -/
import Derived.Test.YtaeeickboakmgaaXx0
import Derived.Test.YtaeeickboakmgaaWAll
namespace Go.Proofs.Ytaeeickboakmgaa.X
open Go.RowKit Go.Proofs.YtaeeickboakmgaaW.PrintWords Go.Proofs.YtaeeickboakmgaaW.PrintLast Go.Proofs.YtaeeickboakmgaaW.PrintStep Go.Proofs.YtaeeickboakmgaaW.PrintMore
attribute [local go_sem] max2_int min2_int max_two min_two max_three min_three max_four min_four   -- for this text's walks alone
set_option linter.unusedVariables false
set_option linter.unusedSimpArgs false

/-! ### impl_Solver_get: function 85 -/
def impl_Solver_get.l0 : Nat → Int → List (S84) → Int → Int → Option (ByteArray × Bool)
 | 0, _, _, _, _ => none
 | k + 1, x1, x9, x10, x11 => if x11 < x10 then (if 0 ≤ x11 then (if x11 < (x9.length : Int) then (if (((rd_T84 x9 x11).f0).length : Int) = 1 then (if 0 < (((rd_T84 x9 x11).f0).length : Int) then (if (rd ((rd_T84 x9 x11).f0) 0) = x1 then (some ((rd_T84 x9 x11).f1, true)) else (impl_Solver_get.l0 k x1 x9 x10 (wrap64 (x11 + 1)))) else (none)) else (impl_Solver_get.l0 k x1 x9 x10 (wrap64 (x11 + 1)))) else (none)) else (none)) else (some ((⟨#[]⟩ : ByteArray), false))
def impl_Solver_get.f (k : Nat) (a0_0 : Int) (a0_1 : Int) (l0_2 : List (S84)) (a1 : Int) : Option (ByteArray × Bool) := impl_Solver_get.l0 k a1 l0_2 (l0_2.length : Int) 0
theorem impl_Solver_get.mono_l : ∀ k, (∀ y0 y1 y2 y3, LeO (impl_Solver_get.l0 k y0 y1 y2 y3) (impl_Solver_get.l0 (k + 1) y0 y1 y2 y3))
 | 0 => fun _ _ _ _ r h => by simp [impl_Solver_get.l0] at h
 | k + 1 => by
  have ih0 := impl_Solver_get.mono_l k
  ·intro y0 y1 y2 y3
   unfold impl_Solver_get.l0
   repeat' first
   | (with_reducible exact ih0 _ _ _ _)
   | (with_reducible exact LeO.refl _)
   | (with_reducible exact LeO.none _)
   | (with_reducible refine LeO.ite ?_ ?_)
   | (with_reducible refine LeO.bind ?_ (fun _ => ?_))
   | exact ih0 _ _ _ _
   | exact LeO.none _
   | refine LeO.ite ?_ ?_
   | refine LeO.bind ?_ (fun _ => ?_)
theorem impl_Solver_get.mono : ∀ a0 a1 a2 a3 k, LeO (impl_Solver_get.f k a0 a1 a2 a3) (impl_Solver_get.f (k + 1) a0 a1 a2 a3) := by
 intro a0 a1 a2 a3 k
 have ih0 := impl_Solver_get.mono_l k
 unfold impl_Solver_get.f
 repeat' first
  | (with_reducible exact ih0 _ _ _ _)
  | (with_reducible exact LeO.refl _)
  | (with_reducible exact LeO.none _)
  | (with_reducible refine LeO.ite ?_ ?_)
  | (with_reducible refine LeO.bind ?_ (fun _ => ?_))
  | exact ih0 _ _ _ _
  | exact LeO.none _
  | refine LeO.ite ?_ ?_
  | refine LeO.bind ?_ (fun _ => ?_)
set_option maxHeartbeats 8000000 in
set_option maxRecDepth 100000 in
theorem impl_Solver_get.calls (k : Nat) (a0_0 : Int) (a0_1 : Int) (A0_2 : Option Addr) (c0_2 : Nat) (l0_2 : List (S84)) (a1 : Int) (r1 : ByteArray) (r2 : Bool) (w : World) (hr0_2 : Kd.C k84 w A0_2 l0_2.length l0_2) (hc0_2 : l0_2.length ≤ c0_2) (h : impl_Solver_get.f k a0_0 a0_1 l0_2 a1 = some (r1, r2)) :
 Calls Try.prog 85 #[.agg #[.int .i64 a0_0, .int .i64 a0_1, .slice A0_2 l0_2.length c0_2], .int .i64 a1] w fun e w' => e = .returned (.tuple #[.string r1, .bool r2]) ∧ Below w.heap.size w w' := by
 have hu37 := Try.underlying37
 have hu84 := Try.underlying84
 have HR0_2 := Aside0.mk hr0_2
 have HC0_2 := Aside0.mk hc0_2
 clear hr0_2 hc0_2
 have HB := Aside0.mk (Below.refl w.heap.size w)
 have H : (impl_Solver_get.l0 k a1 l0_2 (l0_2.length : Int) 0) = some (r1, r2) := h
 clear h
 have H' := Aside0.mk H
 clear H
 go_enter Try.func85, Try.ntmps85
 go_wp2_with (first | ((with_reducible refine gate_dst (N := 2) rfl ?_); refine box_event ?hg (N := 2) ?hd (cs := #[.int .i64 a0_0, .int .i64 a0_1, .slice A0_2 l0_2.length c0_2]) (t := 37) ?hr ?_; (case hd => rfl); (case hg => rfl); (case hr => first | (go_simp; done) | (go_simp; rfl)); intro gb728 hg w3 hbox hb; have n0_ := Aside0.mk (below_step (gB HB.out) hb); have n1_ := Aside0.mk (hbox); have n2_ := Aside0.mk ((by rw [hg]; exact (below_size (gB HB.out)) : w.heap.size ≤ gb728)); have n3_ := n2_; clear HB; have HB := n0_; have BK728 := n1_; have GW728 := n2_; have GE728 := n3_; clear n0_ n1_ n2_ n3_; clear hb hbox hg; have hcz4_0 := cz_ BK728.out 0 rfl; have hcz4_1 := cz_ BK728.out 1 rfl; have hcz4_2 := cz_ BK728.out 2 rfl; have hfz4_0 := blk_frozen BK728.out 0; have hfz4_1 := blk_frozen BK728.out 1; have hfz4_2 := blk_frozen BK728.out 2))
 go_loopg [11] k (fun kq v11 w' => ∃ (x11_1 : Int), v11 = .int .i64 x11_1 ∧ Aside0 (impl_Solver_get.l0 kq a1 l0_2 (l0_2.length : Int) x11_1 = some (r1, r2)) ∧ Aside0 (kq ≤ k) ∧ Aside0 (w'.heap[gb728]? = some (.cells #[.int .i64 a0_0, .int .i64 a0_1, (.slice A0_2 l0_2.length c0_2)] 37 (0, 0))) ∧ Aside0 (Below w.heap.size w w'))
 case atStart => exact ⟨(0), (by first | rfl | (simp; done) | (simp [*]; done) | (simp [wrap64]; done)), H', ⟨Nat.le_refl _⟩, ⟨by (with_reducible repeat (first | refine blk_drewN ?_ _ | refine blk_drew ?_ | refine blk_alloc ?_ _)); exact BK728.out⟩, ⟨by repeat (first | (with_reducible first | exact HB.out | apply below_alloc | apply pw_below_drewN | apply below_drew1 | refine below_set ?_ GE728.out) | exact HB.out)⟩⟩
 case round =>
  clear H'
  try clear p2
  try clear hcz4_0
  try clear hcz4_1
  try clear hcz4_2
  try clear hfz4_0
  try clear hfz4_1
  try clear hfz4_2
  obtain ⟨x11_1, rfl, HA, HK1, BK728, HB⟩ := hrel
  cases gk with
  | zero => exact absurd HA.out (by simp [impl_Solver_get.l0])
  | succ k1 =>
   have H := HA.out
   clear HA
   simp only [impl_Solver_get.l0] at H
   by_cases c5 : x11_1 < (l0_2.length : Int)
   ·rw [if_pos c5] at H
    have c5b0 : decide (x11_1 < (l0_2.length : Int)) = true := decide_eq_true c5
    clear c5
    by_cases c6 : 0 ≤ x11_1
    ·rw [if_pos c6] at H
     have c6b0 : decide (0 ≤ x11_1) = true := decide_eq_true c6
     clear c6
     by_cases c7 : x11_1 < (l0_2.length : Int)
     ·rw [if_pos c7] at H
      have c7b0 : decide (x11_1 < (l0_2.length : Int)) = true := decide_eq_true c7
      clear c7
      by_cases c8 : (((rd_T84 l0_2 x11_1).f0).length : Int) = 1
      ·rw [if_pos c8] at H
       have c8b0 : ((((rd_T84 l0_2 x11_1).f0).length : Int) == 1) = true := beq_iff_eq.mpr c8
       have c8b1 : ((((rd_T84 l0_2 x11_1).f0).length : Int) != 1) = false := bne_eq_false_iff_eq.mpr c8
       clear c8
       by_cases c9 : 0 < (((rd_T84 l0_2 x11_1).f0).length : Int)
       ·rw [if_pos c9] at H
        have c9b0 : decide (0 < (((rd_T84 l0_2 x11_1).f0).length : Int)) = true := decide_eq_true c9
        have c9b1 : decide (0 < ((rd_T84 l0_2 x11_1).f0).length) = true := decide_eq_true (by omega)
        clear c9
        by_cases c10 : (rd ((rd_T84 l0_2 x11_1).f0) 0) = a1
        ·rw [if_pos c10] at H
         have c10b0 : ((rd ((rd_T84 l0_2 x11_1).f0) 0) == a1) = true := beq_iff_eq.mpr c10
         have c10b1 : ((rd ((rd_T84 l0_2 x11_1).f0) 0) != a1) = false := bne_eq_false_iff_eq.mpr c10
         clear c10
         simp only [Option.some.injEq, Prod.mk.injEq] at H
         obtain ⟨rfl, rfl⟩ := H
         have p729 : 0 ≤ (x11_1 : Int) := of_decide_eq_true (by first | (with_reducible assumption) | assumption)
         have q729 : x11_1 < (l0_2.length : Int) := of_decide_eq_true (by first | (with_reducible assumption) | assumption)
         obtain ⟨ad729, A729_0, c729_0, e729, hx729_0, hx729_1, hl729_0, hi729_0⟩ := at_T84 HR0_2.out x11_1 p729 q729
         cases e729
         replace hx729_0 := (HB.out.cell (World.block_lt_of_cell? w _ hx729_0)).trans hx729_0
         replace hx729_1 := (HB.out.cell (World.block_lt_of_cell? w _ hx729_1)).trans hx729_1
         have HR729_0 := Aside0.mk hi729_0
         have HC729_0 := Aside0.mk hl729_0
         clear hi729_0 hl729_0
         replace p729 := eq_true p729
         replace q729 := eq_true q729
         go_wp2_with (first | ((with_reducible refine gate_dst (N := 7) rfl ?_); refine box_event ?hg (N := 7) ?hd (cs := #[.slice none 0 0, .string (⟨#[]⟩ : ByteArray)]) (t := 84) ?hr ?_; (case hd => rfl); (case hg => rfl); (case hr => first | (go_simp; done) | (go_simp; rfl)); intro gb730 hg w11 hbox hb; have n0_ := Aside0.mk (blk_below (gK BK728.out) hb); have n1_ := Aside0.mk (below_step (gB HB.out) hb); have n2_ := Aside0.mk (hbox); have n3_ := Aside0.mk ((by rw [hg]; exact (below_size (gB HB.out)) : w.heap.size ≤ gb730)); have n4_ := n3_; have n5_ := Aside0.mk ((by rw [hg]; exact Nat.ne_of_lt (blk_lt (gK BK728.out)) : gb728 ≠ gb730)); have n6_ := Aside0.mk ((by rw [hg]; exact Nat.ne_of_gt (blk_lt (gK BK728.out)) : gb730 ≠ gb728)); clear BK728; clear HB; have BK728 := n0_; have HB := n1_; have BK730 := n2_; have GW730 := n3_; have GE730 := n4_; have NB728_730 := n5_; have NB730_728 := n6_; clear n0_ n1_ n2_ n3_ n4_ n5_ n6_; clear hb hbox hg; have hnb12 := NB730_728.out; have hnc12 := NB728_730.out; have hcz13_0 := cz_ BK730.out 0 rfl; have hcz13_1 := cz_ BK730.out 1 rfl; have hfz13_0 := blk_frozen BK730.out 0; have hfz13_1 := blk_frozen BK730.out 1; have p731 : 0 ≤ (0 : Int) := (by omega); have q731 : 0 < (((rd_T84 l0_2 x11_1).f0).length : Int) := of_decide_eq_true (by first | (with_reducible assumption) | assumption); obtain ⟨ad731, e731, hx731_0⟩ := Kd.at_int HR729_0.out 0 p731 q731; cases e731; have qi731 : (0 < ((rd_T84 l0_2 x11_1).f0).length) = True := eq_true (by omega); (try rw [show ((0 : Int)).toNat = 0 from rfl] at hx731_0); (try rw [Addr.add_zero'] at hx731_0); have hn731_0 : ad731.block ≠ gb730 := Nat.ne_of_lt (Nat.lt_of_lt_of_le (by have := World.block_lt_of_cell? _ _ hx731_0; first | rwa [add_block] at this | exact this) GW730.out); have hn731_1 : ad731.block ≠ gb730 := Nat.ne_of_lt (Nat.lt_of_lt_of_le (by have := World.block_lt_of_cell? _ _ hx731_0; first | rwa [add_block] at this | exact this) GW730.out); replace hx731_0 := (HB.out.cell (World.block_lt_of_cell? w _ hx731_0)).trans hx731_0; replace hx731_0 := (cell_far (p := ⟨gb730, 0, none⟩) (by first | (rw [add_block]; exact hn731_0) | (show (Addr.add _ _).block ≠ _; rw [add_block]; exact hn731_0) | exact hn731_0) (.slice (some ad731) ((rd_T84 l0_2 x11_1).f0).length c729_0)).trans hx731_0; replace hx731_0 := (cell_far (p := ⟨gb730, 1, none⟩) (by first | (rw [add_block]; exact hn731_1) | (show (Addr.add _ _).block ≠ _; rw [add_block]; exact hn731_1) | exact hn731_1) (.string ((rd_T84 l0_2 x11_1).f1))).trans hx731_0; clear hn731_0; clear hn731_1; replace p731 := eq_true p731; replace q731 := eq_true q731))
         go_ret2
         exact ⟨by first | rfl | (simp [errW_none, errW_some] <;> rfl) | (simp [*, errW_none, errW_some] <;> rfl), by repeat (first | (with_reducible first | exact HB.out | apply below_alloc | apply pw_below_drewN | apply below_drew1 | refine below_set ?_ GE728.out | refine below_set ?_ GE730.out) | exact HB.out)⟩
        ·rw [if_neg c10] at H
         have c10b0 : ((rd ((rd_T84 l0_2 x11_1).f0) 0) == a1) = false := beq_eq_false_iff_ne.mpr c10
         have c10b1 : ((rd ((rd_T84 l0_2 x11_1).f0) 0) != a1) = true := bne_iff_ne.mpr c10
         have H' := Aside0.mk H
         clear H
         have p729 : 0 ≤ (x11_1 : Int) := of_decide_eq_true (by first | (with_reducible assumption) | assumption)
         have q729 : x11_1 < (l0_2.length : Int) := of_decide_eq_true (by first | (with_reducible assumption) | assumption)
         obtain ⟨ad729, A729_0, c729_0, e729, hx729_0, hx729_1, hl729_0, hi729_0⟩ := at_T84 HR0_2.out x11_1 p729 q729
         cases e729
         replace hx729_0 := (HB.out.cell (World.block_lt_of_cell? w _ hx729_0)).trans hx729_0
         replace hx729_1 := (HB.out.cell (World.block_lt_of_cell? w _ hx729_1)).trans hx729_1
         have HR729_0 := Aside0.mk hi729_0
         have HC729_0 := Aside0.mk hl729_0
         clear hi729_0 hl729_0
         replace p729 := eq_true p729
         replace q729 := eq_true q729
         go_wp2_with (first | ((with_reducible refine gate_dst (N := 7) rfl ?_); refine box_event ?hg (N := 7) ?hd (cs := #[.slice none 0 0, .string (⟨#[]⟩ : ByteArray)]) (t := 84) ?hr ?_; (case hd => rfl); (case hg => rfl); (case hr => first | (go_simp; done) | (go_simp; rfl)); intro gb730 hg w14 hbox hb; have n0_ := Aside0.mk (blk_below (gK BK728.out) hb); have n1_ := Aside0.mk (below_step (gB HB.out) hb); have n2_ := Aside0.mk (hbox); have n3_ := Aside0.mk ((by rw [hg]; exact (below_size (gB HB.out)) : w.heap.size ≤ gb730)); have n4_ := n3_; have n5_ := Aside0.mk ((by rw [hg]; exact Nat.ne_of_lt (blk_lt (gK BK728.out)) : gb728 ≠ gb730)); have n6_ := Aside0.mk ((by rw [hg]; exact Nat.ne_of_gt (blk_lt (gK BK728.out)) : gb730 ≠ gb728)); clear BK728; clear HB; have BK728 := n0_; have HB := n1_; have BK730 := n2_; have GW730 := n3_; have GE730 := n4_; have NB728_730 := n5_; have NB730_728 := n6_; clear n0_ n1_ n2_ n3_ n4_ n5_ n6_; clear hb hbox hg; have hnb15 := NB730_728.out; have hnc15 := NB728_730.out; have hcz16_0 := cz_ BK730.out 0 rfl; have hcz16_1 := cz_ BK730.out 1 rfl; have hfz16_0 := blk_frozen BK730.out 0; have hfz16_1 := blk_frozen BK730.out 1; have p731 : 0 ≤ (0 : Int) := (by omega); have q731 : 0 < (((rd_T84 l0_2 x11_1).f0).length : Int) := of_decide_eq_true (by first | (with_reducible assumption) | assumption); obtain ⟨ad731, e731, hx731_0⟩ := Kd.at_int HR729_0.out 0 p731 q731; cases e731; have qi731 : (0 < ((rd_T84 l0_2 x11_1).f0).length) = True := eq_true (by omega); (try rw [show ((0 : Int)).toNat = 0 from rfl] at hx731_0); (try rw [Addr.add_zero'] at hx731_0); have hn731_0 : ad731.block ≠ gb730 := Nat.ne_of_lt (Nat.lt_of_lt_of_le (by have := World.block_lt_of_cell? _ _ hx731_0; first | rwa [add_block] at this | exact this) GW730.out); have hn731_1 : ad731.block ≠ gb730 := Nat.ne_of_lt (Nat.lt_of_lt_of_le (by have := World.block_lt_of_cell? _ _ hx731_0; first | rwa [add_block] at this | exact this) GW730.out); replace hx731_0 := (HB.out.cell (World.block_lt_of_cell? w _ hx731_0)).trans hx731_0; replace hx731_0 := (cell_far (p := ⟨gb730, 0, none⟩) (by first | (rw [add_block]; exact hn731_0) | (show (Addr.add _ _).block ≠ _; rw [add_block]; exact hn731_0) | exact hn731_0) (.slice (some ad731) ((rd_T84 l0_2 x11_1).f0).length c729_0)).trans hx731_0; replace hx731_0 := (cell_far (p := ⟨gb730, 1, none⟩) (by first | (rw [add_block]; exact hn731_1) | (show (Addr.add _ _).block ≠ _; rw [add_block]; exact hn731_1) | exact hn731_1) (.string ((rd_T84 l0_2 x11_1).f1))).trans hx731_0; clear hn731_0; clear hn731_1; replace p731 := eq_true p731; replace q731 := eq_true q731))
         go_roundg k1
         case measure => have := HK1.out; omega
         case rel => exact ⟨(wrap64 (x11_1 + 1)), (by first | rfl | (simp; done) | (simp [*]; done) | (simp [wrap64]; done)), H', ⟨by have := HK1.out; omega⟩, ⟨by (with_reducible repeat (first | refine blk_drewN ?_ _ | refine blk_drew ?_ | refine blk_alloc ?_ _)); refine blk_far ?_ NB728_730.out _; (with_reducible repeat (first | refine blk_drewN ?_ _ | refine blk_drew ?_ | refine blk_alloc ?_ _)); refine blk_far ?_ NB728_730.out _; (with_reducible repeat (first | refine blk_drewN ?_ _ | refine blk_drew ?_ | refine blk_alloc ?_ _)); exact BK728.out⟩, ⟨by repeat (first | (with_reducible first | exact HB.out | apply below_alloc | apply pw_below_drewN | apply below_drew1 | refine below_set ?_ GE728.out | refine below_set ?_ GE730.out) | exact HB.out)⟩⟩
       ·rw [if_neg c9] at H
        exact absurd H (by simp)
      ·rw [if_neg c8] at H
       have c8b0 : ((((rd_T84 l0_2 x11_1).f0).length : Int) == 1) = false := beq_eq_false_iff_ne.mpr c8
       have c8b1 : ((((rd_T84 l0_2 x11_1).f0).length : Int) != 1) = true := bne_iff_ne.mpr c8
       have H' := Aside0.mk H
       clear H
       have p729 : 0 ≤ (x11_1 : Int) := of_decide_eq_true (by first | (with_reducible assumption) | assumption)
       have q729 : x11_1 < (l0_2.length : Int) := of_decide_eq_true (by first | (with_reducible assumption) | assumption)
       obtain ⟨ad729, A729_0, c729_0, e729, hx729_0, hx729_1, hl729_0, hi729_0⟩ := at_T84 HR0_2.out x11_1 p729 q729
       cases e729
       replace hx729_0 := (HB.out.cell (World.block_lt_of_cell? w _ hx729_0)).trans hx729_0
       replace hx729_1 := (HB.out.cell (World.block_lt_of_cell? w _ hx729_1)).trans hx729_1
       have HR729_0 := Aside0.mk hi729_0
       have HC729_0 := Aside0.mk hl729_0
       clear hi729_0 hl729_0
       replace p729 := eq_true p729
       replace q729 := eq_true q729
       go_wp2_with (first | ((with_reducible refine gate_dst (N := 7) rfl ?_); refine box_event ?hg (N := 7) ?hd (cs := #[.slice none 0 0, .string (⟨#[]⟩ : ByteArray)]) (t := 84) ?hr ?_; (case hd => rfl); (case hg => rfl); (case hr => first | (go_simp; done) | (go_simp; rfl)); intro gb730 hg w17 hbox hb; have n0_ := Aside0.mk (blk_below (gK BK728.out) hb); have n1_ := Aside0.mk (below_step (gB HB.out) hb); have n2_ := Aside0.mk (hbox); have n3_ := Aside0.mk ((by rw [hg]; exact (below_size (gB HB.out)) : w.heap.size ≤ gb730)); have n4_ := n3_; have n5_ := Aside0.mk ((by rw [hg]; exact Nat.ne_of_lt (blk_lt (gK BK728.out)) : gb728 ≠ gb730)); have n6_ := Aside0.mk ((by rw [hg]; exact Nat.ne_of_gt (blk_lt (gK BK728.out)) : gb730 ≠ gb728)); clear BK728; clear HB; have BK728 := n0_; have HB := n1_; have BK730 := n2_; have GW730 := n3_; have GE730 := n4_; have NB728_730 := n5_; have NB730_728 := n6_; clear n0_ n1_ n2_ n3_ n4_ n5_ n6_; clear hb hbox hg; have hnb18 := NB730_728.out; have hnc18 := NB728_730.out; have hcz19_0 := cz_ BK730.out 0 rfl; have hcz19_1 := cz_ BK730.out 1 rfl; have hfz19_0 := blk_frozen BK730.out 0; have hfz19_1 := blk_frozen BK730.out 1))
       go_roundg k1
       case measure => have := HK1.out; omega
       case rel => exact ⟨(wrap64 (x11_1 + 1)), (by first | rfl | (simp; done) | (simp [*]; done) | (simp [wrap64]; done)), H', ⟨by have := HK1.out; omega⟩, ⟨by (with_reducible repeat (first | refine blk_drewN ?_ _ | refine blk_drew ?_ | refine blk_alloc ?_ _)); refine blk_far ?_ NB728_730.out _; (with_reducible repeat (first | refine blk_drewN ?_ _ | refine blk_drew ?_ | refine blk_alloc ?_ _)); refine blk_far ?_ NB728_730.out _; (with_reducible repeat (first | refine blk_drewN ?_ _ | refine blk_drew ?_ | refine blk_alloc ?_ _)); exact BK728.out⟩, ⟨by repeat (first | (with_reducible first | exact HB.out | apply below_alloc | apply pw_below_drewN | apply below_drew1 | refine below_set ?_ GE728.out | refine below_set ?_ GE730.out) | exact HB.out)⟩⟩
     ·rw [if_neg c7] at H
      exact absurd H (by simp)
    ·rw [if_neg c6] at H
     exact absurd H (by simp)
   ·rw [if_neg c5] at H
    have c5b0 : decide (x11_1 < (l0_2.length : Int)) = false := decide_eq_false c5
    clear c5
    simp only [Option.some.injEq, Prod.mk.injEq] at H
    obtain ⟨rfl, rfl⟩ := H
    go_wp2
    go_ret2
    exact ⟨by first | rfl | (simp [errW_none, errW_some] <;> rfl) | (simp [*, errW_none, errW_some] <;> rfl), by repeat (first | (with_reducible first | exact HB.out | apply below_alloc | apply pw_below_drewN | apply below_drew1 | refine below_set ?_ GE728.out) | exact HB.out)⟩

end Go.Proofs.Ytaeeickboakmgaa.X
