/- Printed for this claim by the session's program (the kit's printer, several laws in one place): the functions that the law reaches, each as a plain Lean function, and the proof that the Go code comes to its answers. Conditions: none beside those that each theorem states. -/
import Derived.Test.YtbgheffgkncpgaaXx0
import Derived.Test.YtbgheffgkncpgaaXx1
import Derived.Test.YtbgheffgkncpgaaXx9
import Derived.Test.YtbgheffgkncpgaaXx10
import Derived.Test.YtbgheffgkncpgaaWAll
namespace Go.Proofs.Ytbgheffgkncpgaa.X
open Go.RowKit Go.Proofs.YtbgheffgkncpgaaW.PrintWords Go.Proofs.YtbgheffgkncpgaaW.PrintLast Go.Proofs.YtbgheffgkncpgaaW.PrintStep Go.Proofs.YtbgheffgkncpgaaW.PrintMore
attribute [local go_sem] max2_int min2_int max_two min_two max_three min_three max_four min_four   -- for this text's walks alone
set_option linter.unusedVariables false
set_option linter.unusedSimpArgs false

/-! ### spec_RowSum: function 14 -/
mutual
def spec_RowSum.j0 : Nat → List ByteArray → List Int → Bool → Option (ByteArray × Bool)
 | 0, _, _, _ => none
 | k + 1, x0, x1, x16 => if x16 = true then (some ((⟨#[]⟩ : ByteArray), false)) else (spec_RowSum.l0 k x0 x1 0)
def spec_RowSum.l0 : Nat → List ByteArray → List Int → Int → Option (ByteArray × Bool)
 | 0, _, _, _ => none
 | k + 1, x0, x1, x6 => if x6 < (x0.length : Int) then (if 0 ≤ x6 then (if 0 < (x0.length : Int) then (if ((rdOf ByteArray.empty x0 x6).size : Int) = ((rdOf ByteArray.empty x0 0).size : Int) then (if ((rdOf ByteArray.empty x0 x6).size : Int) > 16 then (some ((⟨#[]⟩ : ByteArray), false)) else (spec_RowSum.l0 k x0 x1 (wrap64 (x6 + 1)))) else (some ((⟨#[]⟩ : ByteArray), false))) else (none)) else (none)) else (if 0 < (x0.length : Int) then ((spec_l2Sum.f k x0 x1 ((rdOf ByteArray.empty x0 0).size : Int)).bind fun t172 => (some (t172, true))) else (none))
end
def spec_RowSum.f (k : Nat) (l0 : List ByteArray) (l1 : List Int) : Option (ByteArray × Bool) := (spec_RowOk.f k l1 (l0.length : Int)).bind fun t167 => (if t167 = true then (spec_RowSum.j0 k l0 l1 ((l0.length : Int) == 0)) else (spec_RowSum.j0 k l0 l1 true))
theorem spec_RowSum.mono_l : ∀ k, (∀ y0 y1 y2, LeO (spec_RowSum.j0 k y0 y1 y2) (spec_RowSum.j0 (k + 1) y0 y1 y2)) ∧ (∀ y0 y1 y2, LeO (spec_RowSum.l0 k y0 y1 y2) (spec_RowSum.l0 (k + 1) y0 y1 y2))
 | 0 => ⟨fun _ _ _ r h => by simp [spec_RowSum.j0] at h, fun _ _ _ r h => by simp [spec_RowSum.l0] at h⟩
 | k + 1 => by
  obtain ⟨ih0, ih1⟩ := spec_RowSum.mono_l k
  refine ⟨?_, ?_⟩
  ·intro y0 y1 y2
   unfold spec_RowSum.j0
   repeat' first
   | (with_reducible exact ih0 _ _ _)
   | (with_reducible exact ih1 _ _ _)
   | (with_reducible exact spec_RowOk.mono _ _ _)
   | (with_reducible exact spec_l2Sum.mono _ _ _ _)
   | (with_reducible exact LeO.refl _)
   | (with_reducible exact LeO.none _)
   | (with_reducible refine LeO.ite ?_ ?_)
   | (with_reducible refine LeO.bind ?_ (fun _ => ?_))
   | exact ih0 _ _ _
   | exact ih1 _ _ _
   | exact spec_RowOk.mono _ _ _
   | exact spec_l2Sum.mono _ _ _ _
   | exact LeO.none _
   | refine LeO.ite ?_ ?_
   | refine LeO.bind ?_ (fun _ => ?_)
  ·intro y0 y1 y2
   unfold spec_RowSum.l0
   repeat' first
   | (with_reducible exact ih0 _ _ _)
   | (with_reducible exact ih1 _ _ _)
   | (with_reducible exact spec_RowOk.mono _ _ _)
   | (with_reducible exact spec_l2Sum.mono _ _ _ _)
   | (with_reducible exact LeO.refl _)
   | (with_reducible exact LeO.none _)
   | (with_reducible refine LeO.ite ?_ ?_)
   | (with_reducible refine LeO.bind ?_ (fun _ => ?_))
   | exact ih0 _ _ _
   | exact ih1 _ _ _
   | exact spec_RowOk.mono _ _ _
   | exact spec_l2Sum.mono _ _ _ _
   | exact LeO.none _
   | refine LeO.ite ?_ ?_
   | refine LeO.bind ?_ (fun _ => ?_)
theorem spec_RowSum.mono : ∀ a0 a1 k, LeO (spec_RowSum.f k a0 a1) (spec_RowSum.f (k + 1) a0 a1) := by
 intro a0 a1 k
 obtain ⟨ih0, ih1⟩ := spec_RowSum.mono_l k
 unfold spec_RowSum.f
 repeat' first
  | (with_reducible exact ih0 _ _ _)
  | (with_reducible exact ih1 _ _ _)
  | (with_reducible exact spec_RowOk.mono _ _ _)
  | (with_reducible exact spec_l2Sum.mono _ _ _ _)
  | (with_reducible exact LeO.refl _)
  | (with_reducible exact LeO.none _)
  | (with_reducible refine LeO.ite ?_ ?_)
  | (with_reducible refine LeO.bind ?_ (fun _ => ?_))
  | exact ih0 _ _ _
  | exact ih1 _ _ _
  | exact spec_RowOk.mono _ _ _
  | exact spec_l2Sum.mono _ _ _ _
  | exact LeO.none _
  | refine LeO.ite ?_ ?_
  | refine LeO.bind ?_ (fun _ => ?_)
set_option maxHeartbeats 8000000 in
set_option maxRecDepth 100000 in
theorem spec_RowSum.calls (k : Nat) (A0 : Option Addr) (c0 : Nat) (l0 : List ByteArray) (A1 : Option Addr) (c1 : Nat) (l1 : List Int) (r1 : ByteArray) (r2 : Bool) (w : World) (hr0 : Kd.C Kd.string w A0 l0.length l0) (hc0 : l0.length ≤ c0) (hr1 : Kd.C (Kd.int .i64) w A1 l1.length l1) (hc1 : l1.length ≤ c1) (h : spec_RowSum.f k l0 l1 = some (r1, r2)) :
 Calls Try.prog 14 #[.slice A0 l0.length c0, .slice A1 l1.length c1] w fun e w' => e = .returned (.tuple #[.string r1, .bool r2]) ∧ Below w.heap.size w w' := by
 have HR0 := Aside0.mk hr0
 have HC0 := Aside0.mk hc0
 clear hr0 hc0
 have HR1 := Aside0.mk hr1
 have HC1 := Aside0.mk hc1
 clear hr1 hc1
 have HB := Aside0.mk (Below.refl w.heap.size w)
 have H : ((spec_RowOk.f k l1 (l0.length : Int)).bind fun t167 => (if t167 = true then (spec_RowSum.j0 k l0 l1 ((l0.length : Int) == 0)) else (spec_RowSum.j0 k l0 l1 true))) = some (r1, r2) := h
 clear h
 have HC3 := Aside0.mk H
 clear H
 go_enter Try.func14, Try.ntmps14
 go_upto_region 1 with (fail)
 repeat (go_quiet (fail); go_upto_region 1 with (fail))
 go_cut [16] (fun v16 wc => ∃ (kq : Nat) (x16_2 : Bool), v16 = .bool x16_2 ∧ Aside0 (spec_RowSum.j0 kq l0 l1 x16_2 = some (r1, r2)) ∧ Aside0 (kq ≤ k) ∧ Aside0 (Below w.heap.size w wc))
 case first =>
  have H := HC3.out
  clear HC3
  replace H := bI_ H
  obtain ⟨t167, A40, H⟩ := H
  replace H : (if t167 = true then (spec_RowSum.j0 k l0 l1 ((l0.length : Int) == 0)) else (spec_RowSum.j0 k l0 l1 true)) = some (r1, r2) := H
  have A4 := Aside0.mk A40
  clear A40
  by_cases c5 : t167 = true
  ·subst c5
   have H1 : (spec_RowSum.j0 k l0 l1 ((l0.length : Int) == 0)) = some (r1, r2) := by rw [if_pos rfl] at H; exact H
   clear H
   have H := H1
   clear H1
   have H' := Aside0.mk H
   clear H
   go_wp2_with (first | (go_at_call 42; (with_reducible refine (spec_RowOk.calls k _ _ l1 (l0.length : Int) true _ ?side1 ?side2 A4.out).mono ?_); (case side1 => exact gC (Kd.C_below HR1.out HB.out)); (case side2 => exact HC1.out); rintro e w' ⟨rfl, ⟨nd, rfl⟩⟩; (try first | exact ⟨rfl, _, World.drewN_drewN _ _ _⟩ | exact ⟨rfl, _, Eq.trans (World.drewN_drewN _ _ _) (congrArg (World.drewN _) (Nat.add_assoc _ _ _))⟩)))
   repeat (go_quiet (first | (go_at_call 42; (with_reducible refine (spec_RowOk.calls k _ _ l1 (l0.length : Int) true _ ?side1 ?side2 A4.out).mono ?_); (case side1 => exact gC (Kd.C_below HR1.out HB.out)); (case side2 => exact HC1.out); rintro e w' ⟨rfl, ⟨nd, rfl⟩⟩; (try first | exact ⟨rfl, _, World.drewN_drewN _ _ _⟩ | exact ⟨rfl, _, Eq.trans (World.drewN_drewN _ _ _) (congrArg (World.drewN _) (Nat.add_assoc _ _ _))⟩))); try go_wp2_with (first | (go_at_call 42; (with_reducible refine (spec_RowOk.calls k _ _ l1 (l0.length : Int) true _ ?side1 ?side2 A4.out).mono ?_); (case side1 => exact gC (Kd.C_below HR1.out HB.out)); (case side2 => exact HC1.out); rintro e w' ⟨rfl, ⟨nd, rfl⟩⟩; (try first | exact ⟨rfl, _, World.drewN_drewN _ _ _⟩ | exact ⟨rfl, _, Eq.trans (World.drewN_drewN _ _ _) (congrArg (World.drewN _) (Nat.add_assoc _ _ _))⟩))))
   go_meet
   case rel => exact ⟨_, (((l0.length : Int) == 0)), (by first | rfl | (simp; done) | (simp [*]; done) | (simp [wrap64]; done)), H', ⟨by first | omega | exact Nat.le_refl _⟩, ⟨by repeat (first | (with_reducible first | exact HB.out | apply below_alloc | apply pw_below_drewN | apply below_drew1) | exact HB.out)⟩⟩
  ·replace c5 := Bool.eq_false_iff.mpr c5
   subst c5
   have H1 : (spec_RowSum.j0 k l0 l1 true) = some (r1, r2) := by rw [if_neg (show ¬ (false = true) by decide)] at H; exact H
   clear H
   have H := H1
   clear H1
   have H' := Aside0.mk H
   clear H
   go_wp2_with (first | (go_at_call 42; (with_reducible refine (spec_RowOk.calls k _ _ l1 (l0.length : Int) false _ ?side1 ?side2 A4.out).mono ?_); (case side1 => exact gC (Kd.C_below HR1.out HB.out)); (case side2 => exact HC1.out); rintro e w' ⟨rfl, ⟨nd, rfl⟩⟩; (try first | exact ⟨rfl, _, World.drewN_drewN _ _ _⟩ | exact ⟨rfl, _, Eq.trans (World.drewN_drewN _ _ _) (congrArg (World.drewN _) (Nat.add_assoc _ _ _))⟩)))
   repeat (go_quiet (first | (go_at_call 42; (with_reducible refine (spec_RowOk.calls k _ _ l1 (l0.length : Int) false _ ?side1 ?side2 A4.out).mono ?_); (case side1 => exact gC (Kd.C_below HR1.out HB.out)); (case side2 => exact HC1.out); rintro e w' ⟨rfl, ⟨nd, rfl⟩⟩; (try first | exact ⟨rfl, _, World.drewN_drewN _ _ _⟩ | exact ⟨rfl, _, Eq.trans (World.drewN_drewN _ _ _) (congrArg (World.drewN _) (Nat.add_assoc _ _ _))⟩))); try go_wp2_with (first | (go_at_call 42; (with_reducible refine (spec_RowOk.calls k _ _ l1 (l0.length : Int) false _ ?side1 ?side2 A4.out).mono ?_); (case side1 => exact gC (Kd.C_below HR1.out HB.out)); (case side2 => exact HC1.out); rintro e w' ⟨rfl, ⟨nd, rfl⟩⟩; (try first | exact ⟨rfl, _, World.drewN_drewN _ _ _⟩ | exact ⟨rfl, _, Eq.trans (World.drewN_drewN _ _ _) (congrArg (World.drewN _) (Nat.add_assoc _ _ _))⟩))))
   go_meet
   case rel => exact ⟨_, (true), (by first | rfl | (simp; done) | (simp [*]; done) | (simp [wrap64]; done)), H', ⟨by first | omega | exact Nat.le_refl _⟩, ⟨by repeat (first | (with_reducible first | exact HB.out | apply below_alloc | apply pw_below_drewN | apply below_drew1) | exact HB.out)⟩⟩
 case rest =>
  clear HC3
  try clear c1
  try clear p2
  try clear c5
  obtain ⟨kq, x16_2, rfl, HA, HJ2, HB⟩ := hcut
  cases kq with
  | zero => exact absurd HA.out (by simp [spec_RowSum.j0])
  | succ kj2 =>
   have H := HA.out
   clear HA
   simp only [spec_RowSum.j0] at H
   by_cases c6 : x16_2 = true
   ·subst c6
    have H1 : (some ((⟨#[]⟩ : ByteArray), false)) = some (r1, r2) := by rw [if_pos rfl] at H; exact H
    clear H
    have H := H1
    clear H1
    simp only [Option.some.injEq, Prod.mk.injEq] at H
    obtain ⟨rfl, rfl⟩ := H
    go_wp2
    repeat (go_quiet (fail); try go_wp2)
    go_ret2
    exact ⟨by first | rfl | (simp [errW_none, errW_some] <;> rfl) | (simp [*, errW_none, errW_some] <;> rfl), by repeat (first | (with_reducible first | exact HB.out | apply below_alloc | apply pw_below_drewN | apply below_drew1) | exact HB.out)⟩
   ·replace c6 := Bool.eq_false_iff.mpr c6
    subst c6
    have H1 : (spec_RowSum.l0 kj2 l0 l1 0) = some (r1, r2) := by rw [if_neg (show ¬ (false = true) by decide)] at H; exact H
    clear H
    have H := H1
    clear H1
    have H' := Aside0.mk H
    clear H
    go_wp2
    repeat (go_quiet (fail); try go_wp2)
    go_loopg [6] kj2 (fun kq v6 w' => ∃ (x6_2 : Int), v6 = .int .i64 x6_2 ∧ Aside0 (spec_RowSum.l0 kq l0 l1 x6_2 = some (r1, r2)) ∧ Aside0 (kq ≤ kj2) ∧ Aside0 (Below w.heap.size w w'))
    case atStart => exact ⟨(0), (by first | rfl | (simp; done) | (simp [*]; done) | (simp [wrap64]; done)), H', ⟨Nat.le_refl _⟩, ⟨by repeat (first | (with_reducible first | exact HB.out | apply below_alloc | apply pw_below_drewN | apply below_drew1) | exact HB.out)⟩⟩
    case round =>
     clear H'
     try clear c1
     try clear p2
     try clear c5
     try clear c6
     try clear p2
     obtain ⟨x6_2, rfl, HA, HK2, HB⟩ := hrel
     cases gk with
     | zero => exact absurd HA.out (by simp [spec_RowSum.l0])
     | succ k2 =>
      have H := HA.out
      clear HA
      simp only [spec_RowSum.l0] at H
      by_cases c7 : x6_2 < (l0.length : Int)
      ·rw [if_pos c7] at H
       have c7b0 : decide (x6_2 < (l0.length : Int)) = true := decide_eq_true c7
       clear c7
       by_cases c8 : 0 ≤ x6_2
       ·rw [if_pos c8] at H
        have c8b0 : decide (0 ≤ x6_2) = true := decide_eq_true c8
        clear c8
        by_cases c9 : 0 < (l0.length : Int)
        ·rw [if_pos c9] at H
         have c9b0 : decide (0 < (l0.length : Int)) = true := decide_eq_true c9
         have c9b1 : decide (0 < l0.length) = true := decide_eq_true (by omega)
         clear c9
         by_cases c10 : ((rdOf ByteArray.empty l0 x6_2).size : Int) = ((rdOf ByteArray.empty l0 0).size : Int)
         ·rw [if_pos c10] at H
          have c10b0 : (((rdOf ByteArray.empty l0 x6_2).size : Int) == ((rdOf ByteArray.empty l0 0).size : Int)) = true := beq_iff_eq.mpr c10
          have c10b1 : (((rdOf ByteArray.empty l0 x6_2).size : Int) != ((rdOf ByteArray.empty l0 0).size : Int)) = false := bne_eq_false_iff_eq.mpr c10
          have c10b2 : ((rdOf ByteArray.empty l0 x6_2).size == (rdOf ByteArray.empty l0 0).size) = true := by first | simpa using c10 | (simp at c10 ⊢; omega)
          clear c10
          by_cases c11 : ((rdOf ByteArray.empty l0 x6_2).size : Int) > 16
          ·rw [if_pos c11] at H
           have c11b0 : decide (16 < ((rdOf ByteArray.empty l0 x6_2).size : Int)) = true := decide_eq_true c11
           have c11b1 : decide (16 < (rdOf ByteArray.empty l0 x6_2).size) = true := decide_eq_true (by omega)
           clear c11
           simp only [Option.some.injEq, Prod.mk.injEq] at H
           obtain ⟨rfl, rfl⟩ := H
           have p168 : 0 ≤ (x6_2 : Int) := of_decide_eq_true (by first | (with_reducible assumption) | assumption)
           have q168 : x6_2 < (l0.length : Int) := of_decide_eq_true (by first | (with_reducible assumption) | assumption)
           obtain ⟨ad168, e168, hx168_0⟩ := Kd.at_string HR0.out x6_2 p168 q168
           cases e168
           replace hx168_0 := (HB.out.cell (World.block_lt_of_cell? w _ hx168_0)).trans hx168_0
           replace p168 := eq_true p168
           replace q168 := eq_true q168
           have p169 : 0 ≤ (0 : Int) := (by omega)
           have q169 : 0 < (l0.length : Int) := of_decide_eq_true (by first | (with_reducible assumption) | assumption)
           obtain ⟨ad169, e169, hx169_0⟩ := Kd.at_string HR0.out 0 p169 q169
           obtain rfl : ad168 = ad169 := (by injection e169)
           have qi169 : (0 < l0.length) = True := eq_true (by omega)
           (try rw [show ((0 : Int)).toNat = 0 from rfl] at hx169_0)
           (try rw [Addr.add_zero'] at hx169_0)
           replace hx169_0 := (HB.out.cell (World.block_lt_of_cell? w _ hx169_0)).trans hx169_0
           replace p169 := eq_true p169
           replace q169 := eq_true q169
           have p170 : 0 ≤ (x6_2 : Int) := of_decide_eq_true (by first | (with_reducible assumption) | assumption)
           have q170 : x6_2 < (l0.length : Int) := of_decide_eq_true (by first | (with_reducible assumption) | assumption)
           obtain ⟨ad170, e170, hx170_0⟩ := Kd.at_string HR0.out x6_2 p170 q170
           obtain rfl : ad168 = ad170 := (by injection e170)
           replace hx170_0 := (HB.out.cell (World.block_lt_of_cell? w _ hx170_0)).trans hx170_0
           replace p170 := eq_true p170
           replace q170 := eq_true q170
           go_wp2
           repeat (go_quiet (fail); try go_wp2)
           go_ret2
           exact ⟨by first | rfl | (simp [errW_none, errW_some] <;> rfl) | (simp [*, errW_none, errW_some] <;> rfl), by repeat (first | (with_reducible first | exact HB.out | apply below_alloc | apply pw_below_drewN | apply below_drew1) | exact HB.out)⟩
          ·rw [if_neg c11] at H
           have c11b0 : decide (16 < ((rdOf ByteArray.empty l0 x6_2).size : Int)) = false := decide_eq_false c11
           have c11b1 : decide (16 < (rdOf ByteArray.empty l0 x6_2).size) = false := decide_eq_false (by omega)
           clear c11
           have H' := Aside0.mk H
           clear H
           have p168 : 0 ≤ (x6_2 : Int) := of_decide_eq_true (by first | (with_reducible assumption) | assumption)
           have q168 : x6_2 < (l0.length : Int) := of_decide_eq_true (by first | (with_reducible assumption) | assumption)
           obtain ⟨ad168, e168, hx168_0⟩ := Kd.at_string HR0.out x6_2 p168 q168
           cases e168
           replace hx168_0 := (HB.out.cell (World.block_lt_of_cell? w _ hx168_0)).trans hx168_0
           replace p168 := eq_true p168
           replace q168 := eq_true q168
           have p169 : 0 ≤ (0 : Int) := (by omega)
           have q169 : 0 < (l0.length : Int) := of_decide_eq_true (by first | (with_reducible assumption) | assumption)
           obtain ⟨ad169, e169, hx169_0⟩ := Kd.at_string HR0.out 0 p169 q169
           obtain rfl : ad168 = ad169 := (by injection e169)
           have qi169 : (0 < l0.length) = True := eq_true (by omega)
           (try rw [show ((0 : Int)).toNat = 0 from rfl] at hx169_0)
           (try rw [Addr.add_zero'] at hx169_0)
           replace hx169_0 := (HB.out.cell (World.block_lt_of_cell? w _ hx169_0)).trans hx169_0
           replace p169 := eq_true p169
           replace q169 := eq_true q169
           have p170 : 0 ≤ (x6_2 : Int) := of_decide_eq_true (by first | (with_reducible assumption) | assumption)
           have q170 : x6_2 < (l0.length : Int) := of_decide_eq_true (by first | (with_reducible assumption) | assumption)
           obtain ⟨ad170, e170, hx170_0⟩ := Kd.at_string HR0.out x6_2 p170 q170
           obtain rfl : ad168 = ad170 := (by injection e170)
           replace hx170_0 := (HB.out.cell (World.block_lt_of_cell? w _ hx170_0)).trans hx170_0
           replace p170 := eq_true p170
           replace q170 := eq_true q170
           go_wp2
           repeat (go_quiet (fail); try go_wp2)
           go_roundg k2
           case measure => have := HJ2.out; have := HK2.out; omega
           case rel => exact ⟨(wrap64 (x6_2 + 1)), (by first | rfl | (simp; done) | (simp [*]; done) | (simp [wrap64]; done)), H', ⟨by have := HJ2.out; have := HK2.out; omega⟩, ⟨by repeat (first | (with_reducible first | exact HB.out | apply below_alloc | apply pw_below_drewN | apply below_drew1) | exact HB.out)⟩⟩
         ·rw [if_neg c10] at H
          have c10b0 : (((rdOf ByteArray.empty l0 x6_2).size : Int) == ((rdOf ByteArray.empty l0 0).size : Int)) = false := beq_eq_false_iff_ne.mpr c10
          have c10b1 : (((rdOf ByteArray.empty l0 x6_2).size : Int) != ((rdOf ByteArray.empty l0 0).size : Int)) = true := bne_iff_ne.mpr c10
          have c10b2 : ((rdOf ByteArray.empty l0 x6_2).size == (rdOf ByteArray.empty l0 0).size) = false := by first | simpa using c10 | (simp at c10 ⊢; omega)
          simp only [Option.some.injEq, Prod.mk.injEq] at H
          obtain ⟨rfl, rfl⟩ := H
          have p168 : 0 ≤ (x6_2 : Int) := of_decide_eq_true (by first | (with_reducible assumption) | assumption)
          have q168 : x6_2 < (l0.length : Int) := of_decide_eq_true (by first | (with_reducible assumption) | assumption)
          obtain ⟨ad168, e168, hx168_0⟩ := Kd.at_string HR0.out x6_2 p168 q168
          cases e168
          replace hx168_0 := (HB.out.cell (World.block_lt_of_cell? w _ hx168_0)).trans hx168_0
          replace p168 := eq_true p168
          replace q168 := eq_true q168
          have p169 : 0 ≤ (0 : Int) := (by omega)
          have q169 : 0 < (l0.length : Int) := of_decide_eq_true (by first | (with_reducible assumption) | assumption)
          obtain ⟨ad169, e169, hx169_0⟩ := Kd.at_string HR0.out 0 p169 q169
          obtain rfl : ad168 = ad169 := (by injection e169)
          have qi169 : (0 < l0.length) = True := eq_true (by omega)
          (try rw [show ((0 : Int)).toNat = 0 from rfl] at hx169_0)
          (try rw [Addr.add_zero'] at hx169_0)
          replace hx169_0 := (HB.out.cell (World.block_lt_of_cell? w _ hx169_0)).trans hx169_0
          replace p169 := eq_true p169
          replace q169 := eq_true q169
          go_wp2
          repeat (go_quiet (fail); try go_wp2)
          go_ret2
          exact ⟨by first | rfl | (simp [errW_none, errW_some] <;> rfl) | (simp [*, errW_none, errW_some] <;> rfl), by repeat (first | (with_reducible first | exact HB.out | apply below_alloc | apply pw_below_drewN | apply below_drew1) | exact HB.out)⟩
        ·rw [if_neg c9] at H
         exact absurd H (by simp)
       ·rw [if_neg c8] at H
        exact absurd H (by simp)
      ·rw [if_neg c7] at H
       have c7b0 : decide (x6_2 < (l0.length : Int)) = false := decide_eq_false c7
       clear c7
       by_cases c12 : 0 < (l0.length : Int)
       ·rw [if_pos c12] at H
        have c12b0 : decide (0 < (l0.length : Int)) = true := decide_eq_true c12
        have c12b1 : decide (0 < l0.length) = true := decide_eq_true (by omega)
        clear c12
        replace H := bI_ H
        obtain ⟨t172, A130, H⟩ := H
        replace H : (some (t172, true)) = some (r1, r2) := H
        have A13 := Aside0.mk A130
        clear A130
        simp only [Option.some.injEq, Prod.mk.injEq] at H
        obtain ⟨rfl, rfl⟩ := H
        have p171 : 0 ≤ (0 : Int) := (by omega)
        have q171 : 0 < (l0.length : Int) := of_decide_eq_true (by first | (with_reducible assumption) | assumption)
        obtain ⟨ad171, e171, hx171_0⟩ := Kd.at_string HR0.out 0 p171 q171
        cases e171
        have qi171 : (0 < l0.length) = True := eq_true (by omega)
        (try rw [show ((0 : Int)).toNat = 0 from rfl] at hx171_0)
        (try rw [Addr.add_zero'] at hx171_0)
        replace hx171_0 := (HB.out.cell (World.block_lt_of_cell? w _ hx171_0)).trans hx171_0
        replace p171 := eq_true p171
        replace q171 := eq_true q171
        go_wp2_with (first | (go_at_call 43; (with_reducible refine (spec_l2Sum.calls k2 _ _ l0 _ _ l1 ((rdOf ByteArray.empty l0 0).size : Int) t172 _ ?side1 ?side2 ?side3 ?side4 A13.out).mono ?_); (case side1 => exact gC (Kd.C_below HR0.out HB.out)); (case side2 => exact HC0.out); (case side3 => exact gC (Kd.C_below HR1.out HB.out)); (case side4 => exact HC1.out); rintro e w14 ⟨rfl, hb⟩; have n0_ := Aside0.mk (below_step (gB HB.out) hb); clear HB; have HB := n0_; clear n0_; (try clear hb); (try clear hb2); (try clear hk); (try clear hi)))
        repeat (go_quiet (first | (go_at_call 43; (with_reducible refine (spec_l2Sum.calls k2 _ _ l0 _ _ l1 ((rdOf ByteArray.empty l0 0).size : Int) t172 _ ?side1 ?side2 ?side3 ?side4 A13.out).mono ?_); (case side1 => exact gC (Kd.C_below HR0.out HB.out)); (case side2 => exact HC0.out); (case side3 => exact gC (Kd.C_below HR1.out HB.out)); (case side4 => exact HC1.out); rintro e w14 ⟨rfl, hb⟩; have n0_ := Aside0.mk (below_step (gB HB.out) hb); clear HB; have HB := n0_; clear n0_; (try clear hb); (try clear hb2); (try clear hk); (try clear hi))); try go_wp2_with (first | (go_at_call 43; (with_reducible refine (spec_l2Sum.calls k2 _ _ l0 _ _ l1 ((rdOf ByteArray.empty l0 0).size : Int) t172 _ ?side1 ?side2 ?side3 ?side4 A13.out).mono ?_); (case side1 => exact gC (Kd.C_below HR0.out HB.out)); (case side2 => exact HC0.out); (case side3 => exact gC (Kd.C_below HR1.out HB.out)); (case side4 => exact HC1.out); rintro e w14 ⟨rfl, hb⟩; have n0_ := Aside0.mk (below_step (gB HB.out) hb); clear HB; have HB := n0_; clear n0_; (try clear hb); (try clear hb2); (try clear hk); (try clear hi))))
        go_ret2
        exact ⟨by first | rfl | (simp [errW_none, errW_some] <;> rfl) | (simp [*, errW_none, errW_some] <;> rfl), by repeat (first | (with_reducible first | exact HB.out | apply below_alloc | apply pw_below_drewN | apply below_drew1) | exact HB.out)⟩
       ·rw [if_neg c12] at H
        exact absurd H (by simp)

/-! ### impl_RowSum: function 17 -/
mutual
def impl_RowSum.j0 : Nat → List ByteArray → List Int → Bool → Option (ByteArray × Bool)
 | 0, _, _, _ => none
 | k + 1, x0, x1, x27 => if x27 = true then (some ((⟨#[]⟩ : ByteArray), false)) else (impl_RowSum.l0 k x0 x1 x0 (x0.length : Int) 0)
def impl_RowSum.l0 : Nat → List ByteArray → List Int → List ByteArray → Int → Int → Option (ByteArray × Bool)
 | 0, _, _, _, _, _ => none
 | k + 1, x0, x1, x28, x29, x30 => if x30 < x29 then (if 0 ≤ x30 then (if x30 < (x28.length : Int) then (if 0 < (x0.length : Int) then (if ((rdOf ByteArray.empty x28 x30).size : Int) = ((rdOf ByteArray.empty x0 0).size : Int) then (impl_RowSum.l0 k x0 x1 x28 x29 (wrap64 (x30 + 1))) else (some ((⟨#[]⟩ : ByteArray), false))) else (none)) else (none)) else (none)) else (if 0 < (x0.length : Int) then ((impl_zeros.f ((rdOf ByteArray.empty x0 0).size : Int)).bind fun t195 => (impl_RowSum.l1 k x0 t195 x1 (x1.length : Int) 0)) else (none))
def impl_RowSum.l1 : Nat → List ByteArray → ByteArray → List Int → Int → Int → Option (ByteArray × Bool)
 | 0, _, _, _, _, _ => none
 | k + 1, x0, x8, x47, x48, x49 => if x49 < x48 then (if 0 ≤ x49 then (if x49 < (x47.length : Int) then (if 0 ≤ (rd x47 x49) then (if (rd x47 x49) < (x0.length : Int) then ((impl_xor.f x8 (rdOf ByteArray.empty x0 (rd x47 x49))).bind fun t198 => (impl_RowSum.l1 k x0 t198 x47 x48 (wrap64 (x49 + 1)))) else (none)) else (none)) else (none)) else (none)) else (some (x8, true))
end
def impl_RowSum.f (k : Nat) (l0 : List ByteArray) (l1 : List Int) : Option (ByteArray × Bool) := if (l0.length : Int) = 0 then (impl_RowSum.j0 k l0 l1 true) else (if 0 < (l0.length : Int) then (if ((rdOf ByteArray.empty l0 0).size : Int) > 16 then (impl_RowSum.j0 k l0 l1 true) else ((impl_RowOk.f k l1 (l0.length : Int)).bind fun t191 => (impl_RowSum.j0 k l0 l1 (!t191)))) else (none))
theorem impl_RowSum.mono_l : ∀ k, (∀ y0 y1 y2, LeO (impl_RowSum.j0 k y0 y1 y2) (impl_RowSum.j0 (k + 1) y0 y1 y2)) ∧ (∀ y0 y1 y2 y3 y4, LeO (impl_RowSum.l0 k y0 y1 y2 y3 y4) (impl_RowSum.l0 (k + 1) y0 y1 y2 y3 y4)) ∧ (∀ y0 y1 y2 y3 y4, LeO (impl_RowSum.l1 k y0 y1 y2 y3 y4) (impl_RowSum.l1 (k + 1) y0 y1 y2 y3 y4))
 | 0 => ⟨fun _ _ _ r h => by simp [impl_RowSum.j0] at h, fun _ _ _ _ _ r h => by simp [impl_RowSum.l0] at h, fun _ _ _ _ _ r h => by simp [impl_RowSum.l1] at h⟩
 | k + 1 => by
  obtain ⟨ih0, ih1, ih2⟩ := impl_RowSum.mono_l k
  refine ⟨?_, ?_, ?_⟩
  ·intro y0 y1 y2
   unfold impl_RowSum.j0
   repeat' first
   | (with_reducible exact ih0 _ _ _)
   | (with_reducible exact ih1 _ _ _ _ _)
   | (with_reducible exact ih2 _ _ _ _ _)
   | (with_reducible exact impl_RowOk.mono _ _ _)
   | (with_reducible exact LeO.refl _)
   | (with_reducible exact LeO.none _)
   | (with_reducible refine LeO.ite ?_ ?_)
   | (with_reducible refine LeO.bind ?_ (fun _ => ?_))
   | exact ih0 _ _ _
   | exact ih1 _ _ _ _ _
   | exact ih2 _ _ _ _ _
   | exact impl_RowOk.mono _ _ _
   | exact LeO.none _
   | refine LeO.ite ?_ ?_
   | refine LeO.bind ?_ (fun _ => ?_)
  ·intro y0 y1 y2 y3 y4
   unfold impl_RowSum.l0
   repeat' first
   | (with_reducible exact ih0 _ _ _)
   | (with_reducible exact ih1 _ _ _ _ _)
   | (with_reducible exact ih2 _ _ _ _ _)
   | (with_reducible exact impl_RowOk.mono _ _ _)
   | (with_reducible exact LeO.refl _)
   | (with_reducible exact LeO.none _)
   | (with_reducible refine LeO.ite ?_ ?_)
   | (with_reducible refine LeO.bind ?_ (fun _ => ?_))
   | exact ih0 _ _ _
   | exact ih1 _ _ _ _ _
   | exact ih2 _ _ _ _ _
   | exact impl_RowOk.mono _ _ _
   | exact LeO.none _
   | refine LeO.ite ?_ ?_
   | refine LeO.bind ?_ (fun _ => ?_)
  ·intro y0 y1 y2 y3 y4
   unfold impl_RowSum.l1
   repeat' first
   | (with_reducible exact ih0 _ _ _)
   | (with_reducible exact ih1 _ _ _ _ _)
   | (with_reducible exact ih2 _ _ _ _ _)
   | (with_reducible exact impl_RowOk.mono _ _ _)
   | (with_reducible exact LeO.refl _)
   | (with_reducible exact LeO.none _)
   | (with_reducible refine LeO.ite ?_ ?_)
   | (with_reducible refine LeO.bind ?_ (fun _ => ?_))
   | exact ih0 _ _ _
   | exact ih1 _ _ _ _ _
   | exact ih2 _ _ _ _ _
   | exact impl_RowOk.mono _ _ _
   | exact LeO.none _
   | refine LeO.ite ?_ ?_
   | refine LeO.bind ?_ (fun _ => ?_)
theorem impl_RowSum.mono : ∀ a0 a1 k, LeO (impl_RowSum.f k a0 a1) (impl_RowSum.f (k + 1) a0 a1) := by
 intro a0 a1 k
 obtain ⟨ih0, ih1, ih2⟩ := impl_RowSum.mono_l k
 unfold impl_RowSum.f
 repeat' first
  | (with_reducible exact ih0 _ _ _)
  | (with_reducible exact ih1 _ _ _ _ _)
  | (with_reducible exact ih2 _ _ _ _ _)
  | (with_reducible exact impl_RowOk.mono _ _ _)
  | (with_reducible exact LeO.refl _)
  | (with_reducible exact LeO.none _)
  | (with_reducible refine LeO.ite ?_ ?_)
  | (with_reducible refine LeO.bind ?_ (fun _ => ?_))
  | exact ih0 _ _ _
  | exact ih1 _ _ _ _ _
  | exact ih2 _ _ _ _ _
  | exact impl_RowOk.mono _ _ _
  | exact LeO.none _
  | refine LeO.ite ?_ ?_
  | refine LeO.bind ?_ (fun _ => ?_)
set_option maxHeartbeats 8000000 in
set_option maxRecDepth 100000 in
theorem impl_RowSum.calls (k : Nat) (A0 : Option Addr) (c0 : Nat) (l0 : List ByteArray) (A1 : Option Addr) (c1 : Nat) (l1 : List Int) (r1 : ByteArray) (r2 : Bool) (w : World) (hr0 : Kd.C Kd.string w A0 l0.length l0) (hc0 : l0.length ≤ c0) (hr1 : Kd.C (Kd.int .i64) w A1 l1.length l1) (hc1 : l1.length ≤ c1) (h : impl_RowSum.f k l0 l1 = some (r1, r2)) :
 Calls Try.prog 17 #[.slice A0 l0.length c0, .slice A1 l1.length c1] w fun e w' => e = .returned (.tuple #[.string r1, .bool r2]) ∧ Below w.heap.size w w' := by
 have HR0 := Aside0.mk hr0
 have HC0 := Aside0.mk hc0
 clear hr0 hc0
 have HR1 := Aside0.mk hr1
 have HC1 := Aside0.mk hc1
 clear hr1 hc1
 have HB := Aside0.mk (Below.refl w.heap.size w)
 have H : (if (l0.length : Int) = 0 then (impl_RowSum.j0 k l0 l1 true) else (if 0 < (l0.length : Int) then (if ((rdOf ByteArray.empty l0 0).size : Int) > 16 then (impl_RowSum.j0 k l0 l1 true) else ((impl_RowOk.f k l1 (l0.length : Int)).bind fun t191 => (impl_RowSum.j0 k l0 l1 (!t191)))) else (none))) = some (r1, r2) := h
 clear h
 have HC3 := Aside0.mk H
 clear H
 go_enter Try.func17, Try.ntmps17
 go_upto_region 1 with (fail)
 go_cut [27] (fun v27 wc => ∃ (kq : Nat) (x27_2 : Bool), v27 = .bool x27_2 ∧ Aside0 (impl_RowSum.j0 kq l0 l1 x27_2 = some (r1, r2)) ∧ Aside0 (kq ≤ k) ∧ Aside0 (Below w.heap.size w wc))
 case first =>
  have H := HC3.out
  clear HC3
  by_cases c4 : (l0.length : Int) = 0
  ·rw [if_pos c4] at H
   have c4b0 : ((l0.length : Int) == 0) = true := beq_iff_eq.mpr c4
   have c4b1 : ((l0.length : Int) != 0) = false := bne_eq_false_iff_eq.mpr c4
   clear c4
   (first | rw [c4b0] | (simp only [i64_w, i32_w]; rw [c4b0]) | skip)
   have H' := Aside0.mk H
   clear H
   go_wp2
   go_meet
   case rel => exact ⟨_, (true), (by first | rfl | (simp; done) | (simp [*]; done) | (simp [wrap64]; done)), H', ⟨by first | omega | exact Nat.le_refl _⟩, ⟨by repeat (first | (with_reducible first | exact HB.out | apply below_alloc | apply pw_below_drewN | apply below_drew1) | exact HB.out)⟩⟩
  ·rw [if_neg c4] at H
   have c4b0 : ((l0.length : Int) == 0) = false := beq_eq_false_iff_ne.mpr c4
   have c4b1 : ((l0.length : Int) != 0) = true := bne_iff_ne.mpr c4
   have c4b2 : ¬ (l0 = []) := fun h_ => c4 (by rw [h_]; rfl)
   (first | rw [c4b0] | (simp only [i64_w, i32_w]; rw [c4b0]) | skip)
   by_cases c5 : 0 < (l0.length : Int)
   ·rw [if_pos c5] at H
    have c5b0 : decide (0 < (l0.length : Int)) = true := decide_eq_true c5
    have c5b1 : decide (0 < l0.length) = true := decide_eq_true (by omega)
    clear c5
    by_cases c6 : ((rdOf ByteArray.empty l0 0).size : Int) > 16
    ·rw [if_pos c6] at H
     have c6b0 : decide (16 < ((rdOf ByteArray.empty l0 0).size : Int)) = true := decide_eq_true c6
     have c6b1 : decide (16 < (rdOf ByteArray.empty l0 0).size) = true := decide_eq_true (by omega)
     clear c6
     have H' := Aside0.mk H
     clear H
     have p190 : 0 ≤ (0 : Int) := (by omega)
     have q190 : 0 < (l0.length : Int) := of_decide_eq_true (by first | (with_reducible assumption) | assumption)
     obtain ⟨ad190, e190, hx190_0⟩ := Kd.at_string HR0.out 0 p190 q190
     cases e190
     have qi190 : (0 < l0.length) = True := eq_true (by omega)
     (try rw [show ((0 : Int)).toNat = 0 from rfl] at hx190_0)
     (try rw [Addr.add_zero'] at hx190_0)
     replace hx190_0 := (HB.out.cell (World.block_lt_of_cell? w _ hx190_0)).trans hx190_0
     replace p190 := eq_true p190
     replace q190 := eq_true q190
     go_wp2
     go_meet
     case rel => exact ⟨_, (true), (by first | rfl | (simp; done) | (simp [*]; done) | (simp [wrap64]; done)), H', ⟨by first | omega | exact Nat.le_refl _⟩, ⟨by repeat (first | (with_reducible first | exact HB.out | apply below_alloc | apply pw_below_drewN | apply below_drew1) | exact HB.out)⟩⟩
    ·rw [if_neg c6] at H
     have c6b0 : decide (16 < ((rdOf ByteArray.empty l0 0).size : Int)) = false := decide_eq_false c6
     have c6b1 : decide (16 < (rdOf ByteArray.empty l0 0).size) = false := decide_eq_false (by omega)
     clear c6
     replace H := bI_ H
     obtain ⟨t191, A70, H⟩ := H
     replace H : (impl_RowSum.j0 k l0 l1 (!t191)) = some (r1, r2) := H
     have A7 := Aside0.mk A70
     clear A70
     have H' := Aside0.mk H
     clear H
     have p190 : 0 ≤ (0 : Int) := (by omega)
     have q190 : 0 < (l0.length : Int) := of_decide_eq_true (by first | (with_reducible assumption) | assumption)
     obtain ⟨ad190, e190, hx190_0⟩ := Kd.at_string HR0.out 0 p190 q190
     cases e190
     have qi190 : (0 < l0.length) = True := eq_true (by omega)
     (try rw [show ((0 : Int)).toNat = 0 from rfl] at hx190_0)
     (try rw [Addr.add_zero'] at hx190_0)
     replace hx190_0 := (HB.out.cell (World.block_lt_of_cell? w _ hx190_0)).trans hx190_0
     replace p190 := eq_true p190
     replace q190 := eq_true q190
     go_wp2_with (first | (go_at_call 28; (with_reducible refine (impl_RowOk.calls k _ _ l1 (l0.length : Int) t191 _ ?side1 ?side2 A7.out).mono ?_); (case side1 => exact gC (Kd.C_below HR1.out HB.out)); (case side2 => exact HC1.out); rintro e w' ⟨rfl, ⟨nd, rfl⟩⟩))
     go_meet
     case rel => exact ⟨_, (!t191), (by first | rfl | (simp; done) | (simp [*]; done) | (simp [wrap64]; done)), H', ⟨by first | omega | exact Nat.le_refl _⟩, ⟨by repeat (first | (with_reducible first | exact HB.out | apply below_alloc | apply pw_below_drewN | apply below_drew1) | exact HB.out)⟩⟩
   ·rw [if_neg c5] at H
    exact absurd H (by simp)
 case rest =>
  clear HC3
  try clear c1
  try clear p1
  try clear q1
  try clear hx1
  try clear qi1
  try clear p2
  try clear c4
  try clear c4b0
  try clear c4b1
  try clear c4b2
  try clear c5
  try clear c5b0
  try clear c5b1
  try clear c6
  try clear c6b0
  try clear c6b1
  try clear hx190_0
  try clear p190
  try clear q190
  obtain ⟨kq, x27_2, rfl, HA, HJ2, HB⟩ := hcut
  cases kq with
  | zero => exact absurd HA.out (by simp [impl_RowSum.j0])
  | succ kj2 =>
   have H := HA.out
   clear HA
   simp only [impl_RowSum.j0] at H
   by_cases c8 : x27_2 = true
   ·subst c8
    have H1 : (some ((⟨#[]⟩ : ByteArray), false)) = some (r1, r2) := by rw [if_pos rfl] at H; exact H
    clear H
    have H := H1
    clear H1
    simp only [Option.some.injEq, Prod.mk.injEq] at H
    obtain ⟨rfl, rfl⟩ := H
    go_wp2
    go_ret2
    exact ⟨by first | rfl | (simp [errW_none, errW_some] <;> rfl) | (simp [*, errW_none, errW_some] <;> rfl), by repeat (first | (with_reducible first | exact HB.out | apply below_alloc | apply pw_below_drewN | apply below_drew1) | exact HB.out)⟩
   ·replace c8 := Bool.eq_false_iff.mpr c8
    subst c8
    have H1 : (impl_RowSum.l0 kj2 l0 l1 l0 (l0.length : Int) 0) = some (r1, r2) := by rw [if_neg (show ¬ (false = true) by decide)] at H; exact H
    clear H
    have H := H1
    clear H1
    have H' := Aside0.mk H
    clear H
    go_wp2
    go_loopg [30] kj2 (fun kq v30 w' => ∃ (x30_2 : Int), v30 = .int .i64 x30_2 ∧ Aside0 (impl_RowSum.l0 kq l0 l1 l0 (l0.length : Int) x30_2 = some (r1, r2)) ∧ Aside0 (kq ≤ kj2) ∧ Aside0 (Below w.heap.size w w'))
    case atStart => exact ⟨(0), (by first | rfl | (simp; done) | (simp [*]; done) | (simp [wrap64]; done)), H', ⟨Nat.le_refl _⟩, ⟨by repeat (first | (with_reducible first | exact HB.out | apply below_alloc | apply pw_below_drewN | apply below_drew1) | exact HB.out)⟩⟩
    case round =>
     clear H'
     try clear c1
     try clear p1
     try clear q1
     try clear hx1
     try clear qi1
     try clear p2
     try clear c4
     try clear c4b0
     try clear c4b1
     try clear c4b2
     try clear c5
     try clear c5b0
     try clear c5b1
     try clear c6
     try clear c6b0
     try clear c6b1
     try clear c8
     try clear hx190_0
     try clear p1
     try clear p190
     try clear p2
     try clear q1
     try clear q190
     obtain ⟨x30_2, rfl, HA, HK2, HB⟩ := hrel
     cases gk with
     | zero => exact absurd HA.out (by simp [impl_RowSum.l0])
     | succ k2 =>
      have H := HA.out
      clear HA
      simp only [impl_RowSum.l0] at H
      by_cases c9 : x30_2 < (l0.length : Int)
      ·rw [if_pos c9] at H
       have c9b0 : decide (x30_2 < (l0.length : Int)) = true := decide_eq_true c9
       clear c9
       by_cases c10 : 0 ≤ x30_2
       ·rw [if_pos c10] at H
        have c10b0 : decide (0 ≤ x30_2) = true := decide_eq_true c10
        clear c10
        by_cases c11 : x30_2 < (l0.length : Int)
        ·rw [if_pos c11] at H
         have c11b0 : decide (x30_2 < (l0.length : Int)) = true := decide_eq_true c11
         clear c11
         by_cases c12 : 0 < (l0.length : Int)
         ·rw [if_pos c12] at H
          have c12b0 : decide (0 < (l0.length : Int)) = true := decide_eq_true c12
          have c12b1 : decide (0 < l0.length) = true := decide_eq_true (by omega)
          clear c12
          by_cases c13 : ((rdOf ByteArray.empty l0 x30_2).size : Int) = ((rdOf ByteArray.empty l0 0).size : Int)
          ·rw [if_pos c13] at H
           have c13b0 : (((rdOf ByteArray.empty l0 x30_2).size : Int) == ((rdOf ByteArray.empty l0 0).size : Int)) = true := beq_iff_eq.mpr c13
           have c13b1 : (((rdOf ByteArray.empty l0 x30_2).size : Int) != ((rdOf ByteArray.empty l0 0).size : Int)) = false := bne_eq_false_iff_eq.mpr c13
           have c13b2 : ((rdOf ByteArray.empty l0 x30_2).size == (rdOf ByteArray.empty l0 0).size) = true := by first | simpa using c13 | (simp at c13 ⊢; omega)
           clear c13
           have H' := Aside0.mk H
           clear H
           have p192 : 0 ≤ (x30_2 : Int) := of_decide_eq_true (by first | (with_reducible assumption) | assumption)
           have q192 : x30_2 < (l0.length : Int) := of_decide_eq_true (by first | (with_reducible assumption) | assumption)
           obtain ⟨ad192, e192, hx192_0⟩ := Kd.at_string HR0.out x30_2 p192 q192
           cases e192
           replace hx192_0 := (HB.out.cell (World.block_lt_of_cell? w _ hx192_0)).trans hx192_0
           replace p192 := eq_true p192
           replace q192 := eq_true q192
           have p193 : 0 ≤ (0 : Int) := (by omega)
           have q193 : 0 < (l0.length : Int) := of_decide_eq_true (by first | (with_reducible assumption) | assumption)
           obtain ⟨ad193, e193, hx193_0⟩ := Kd.at_string HR0.out 0 p193 q193
           obtain rfl : ad192 = ad193 := (by injection e193)
           have qi193 : (0 < l0.length) = True := eq_true (by omega)
           (try rw [show ((0 : Int)).toNat = 0 from rfl] at hx193_0)
           (try rw [Addr.add_zero'] at hx193_0)
           replace hx193_0 := (HB.out.cell (World.block_lt_of_cell? w _ hx193_0)).trans hx193_0
           replace p193 := eq_true p193
           replace q193 := eq_true q193
           go_wp2
           go_roundg k2
           case measure => have := HJ2.out; have := HK2.out; omega
           case rel => exact ⟨(wrap64 (x30_2 + 1)), (by first | rfl | (simp; done) | (simp [*]; done) | (simp [wrap64]; done)), H', ⟨by have := HJ2.out; have := HK2.out; omega⟩, ⟨by repeat (first | (with_reducible first | exact HB.out | apply below_alloc | apply pw_below_drewN | apply below_drew1) | exact HB.out)⟩⟩
          ·rw [if_neg c13] at H
           have c13b0 : (((rdOf ByteArray.empty l0 x30_2).size : Int) == ((rdOf ByteArray.empty l0 0).size : Int)) = false := beq_eq_false_iff_ne.mpr c13
           have c13b1 : (((rdOf ByteArray.empty l0 x30_2).size : Int) != ((rdOf ByteArray.empty l0 0).size : Int)) = true := bne_iff_ne.mpr c13
           have c13b2 : ((rdOf ByteArray.empty l0 x30_2).size == (rdOf ByteArray.empty l0 0).size) = false := by first | simpa using c13 | (simp at c13 ⊢; omega)
           simp only [Option.some.injEq, Prod.mk.injEq] at H
           obtain ⟨rfl, rfl⟩ := H
           have p192 : 0 ≤ (x30_2 : Int) := of_decide_eq_true (by first | (with_reducible assumption) | assumption)
           have q192 : x30_2 < (l0.length : Int) := of_decide_eq_true (by first | (with_reducible assumption) | assumption)
           obtain ⟨ad192, e192, hx192_0⟩ := Kd.at_string HR0.out x30_2 p192 q192
           cases e192
           replace hx192_0 := (HB.out.cell (World.block_lt_of_cell? w _ hx192_0)).trans hx192_0
           replace p192 := eq_true p192
           replace q192 := eq_true q192
           have p193 : 0 ≤ (0 : Int) := (by omega)
           have q193 : 0 < (l0.length : Int) := of_decide_eq_true (by first | (with_reducible assumption) | assumption)
           obtain ⟨ad193, e193, hx193_0⟩ := Kd.at_string HR0.out 0 p193 q193
           obtain rfl : ad192 = ad193 := (by injection e193)
           have qi193 : (0 < l0.length) = True := eq_true (by omega)
           (try rw [show ((0 : Int)).toNat = 0 from rfl] at hx193_0)
           (try rw [Addr.add_zero'] at hx193_0)
           replace hx193_0 := (HB.out.cell (World.block_lt_of_cell? w _ hx193_0)).trans hx193_0
           replace p193 := eq_true p193
           replace q193 := eq_true q193
           go_wp2
           go_ret2
           exact ⟨by first | rfl | (simp [errW_none, errW_some] <;> rfl) | (simp [*, errW_none, errW_some] <;> rfl), by repeat (first | (with_reducible first | exact HB.out | apply below_alloc | apply pw_below_drewN | apply below_drew1) | exact HB.out)⟩
         ·rw [if_neg c12] at H
          exact absurd H (by simp)
        ·rw [if_neg c11] at H
         exact absurd H (by simp)
       ·rw [if_neg c10] at H
        exact absurd H (by simp)
      ·rw [if_neg c9] at H
       have c9b0 : decide (x30_2 < (l0.length : Int)) = false := decide_eq_false c9
       clear c9
       by_cases c14 : 0 < (l0.length : Int)
       ·rw [if_pos c14] at H
        have c14b0 : decide (0 < (l0.length : Int)) = true := decide_eq_true c14
        have c14b1 : decide (0 < l0.length) = true := decide_eq_true (by omega)
        clear c14
        replace H := bI_ H
        obtain ⟨t195, A150, H⟩ := H
        replace H : (impl_RowSum.l1 k2 l0 t195 l1 (l1.length : Int) 0) = some (r1, r2) := H
        have A15 := Aside0.mk A150
        clear A150
        have H' := Aside0.mk H
        clear H
        have p194 : 0 ≤ (0 : Int) := (by omega)
        have q194 : 0 < (l0.length : Int) := of_decide_eq_true (by first | (with_reducible assumption) | assumption)
        obtain ⟨ad194, e194, hx194_0⟩ := Kd.at_string HR0.out 0 p194 q194
        cases e194
        have qi194 : (0 < l0.length) = True := eq_true (by omega)
        (try rw [show ((0 : Int)).toNat = 0 from rfl] at hx194_0)
        (try rw [Addr.add_zero'] at hx194_0)
        replace hx194_0 := (HB.out.cell (World.block_lt_of_cell? w _ hx194_0)).trans hx194_0
        replace p194 := eq_true p194
        replace q194 := eq_true q194
        go_wp2_with (first | ((with_reducible refine gate_callee (f := 44) rfl ?_); refine goesL_ (some 46) rfl rfl Try.func44 (by kernel_rfl) rfl #[.int .i64 ((rdOf ByteArray.empty l0 0).size : Int)] rfl (by (try simp only [List.map_toArray, List.map_cons, List.map_nil]); first | done | rfl | (simp only [List.length_drop, List.length_take]; rfl)) ?_; (with_reducible refine (impl_zeros.calls ((rdOf ByteArray.empty l0 0).size : Int) t195 _ A15.out).mono ?_); rintro e w16 ⟨rfl, hb⟩; refine ⟨_, rfl, ?_⟩; have n0_ := Aside0.mk (below_step (gB HB.out) hb); clear HB; have HB := n0_; clear n0_; (try clear hb); (try clear hb2); (try clear hk); (try clear hi)))
        go_loopg [8, 49] k2 (fun kq v8 v49 w' => ∃ (x8_3 : ByteArray) (x49_3 : Int), v8 = .string x8_3 ∧ v49 = .int .i64 x49_3 ∧ Aside0 (impl_RowSum.l1 kq l0 x8_3 l1 (l1.length : Int) x49_3 = some (r1, r2)) ∧ Aside0 (kq ≤ k2) ∧ Aside0 (Below w.heap.size w w'))
        case atStart => exact ⟨(t195), (0), (by first | rfl | (simp; done) | (simp [*]; done) | (simp [wrap64]; done)), (by first | rfl | (simp; done) | (simp [*]; done) | (simp [wrap64]; done)), H', ⟨Nat.le_refl _⟩, ⟨by repeat (first | (with_reducible first | exact HB.out | apply below_alloc | apply pw_below_drewN | apply below_drew1) | exact HB.out)⟩⟩
        case round =>
         clear H'
         try clear c1
         try clear p1
         try clear q1
         try clear hx1
         try clear qi1
         try clear p2
         try clear c4
         try clear c4b0
         try clear c4b1
         try clear c4b2
         try clear c5
         try clear c5b0
         try clear c5b1
         try clear c6
         try clear c6b0
         try clear c6b1
         try clear p6
         try clear c8
         try clear c9
         try clear c9b0
         try clear c10
         try clear c10b0
         try clear c11
         try clear c11b0
         try clear c12
         try clear c12b0
         try clear c12b1
         try clear c13
         try clear c13b0
         try clear c13b1
         try clear c13b2
         try clear c14
         try clear c14b0
         try clear c14b1
         try clear hx190_0
         try clear hx192_0
         try clear hx193_0
         try clear hx194_0
         try clear p1
         try clear p190
         try clear p192
         try clear p193
         try clear p194
         try clear p2
         try clear q1
         try clear q190
         try clear q192
         try clear q193
         try clear q194
         obtain ⟨x8_3, x49_3, rfl, rfl, HA, HK3, HB⟩ := hrel
         cases gk with
         | zero => exact absurd HA.out (by simp [impl_RowSum.l1])
         | succ k3 =>
          have H := HA.out
          clear HA
          simp only [impl_RowSum.l1] at H
          by_cases c17 : x49_3 < (l1.length : Int)
          ·rw [if_pos c17] at H
           have c17b0 : decide (x49_3 < (l1.length : Int)) = true := decide_eq_true c17
           clear c17
           by_cases c18 : 0 ≤ x49_3
           ·rw [if_pos c18] at H
            have c18b0 : decide (0 ≤ x49_3) = true := decide_eq_true c18
            clear c18
            by_cases c19 : x49_3 < (l1.length : Int)
            ·rw [if_pos c19] at H
             have c19b0 : decide (x49_3 < (l1.length : Int)) = true := decide_eq_true c19
             clear c19
             by_cases c20 : 0 ≤ (rd l1 x49_3)
             ·rw [if_pos c20] at H
              have c20b0 : decide (0 ≤ (rd l1 x49_3)) = true := decide_eq_true c20
              clear c20
              by_cases c21 : (rd l1 x49_3) < (l0.length : Int)
              ·rw [if_pos c21] at H
               have c21b0 : decide ((rd l1 x49_3) < (l0.length : Int)) = true := decide_eq_true c21
               clear c21
               replace H := bI_ H
               obtain ⟨t198, A220, H⟩ := H
               replace H : (impl_RowSum.l1 k3 l0 t198 l1 (l1.length : Int) (wrap64 (x49_3 + 1))) = some (r1, r2) := H
               have A22 := Aside0.mk A220
               clear A220
               have H' := Aside0.mk H
               clear H
               have p196 : 0 ≤ (x49_3 : Int) := of_decide_eq_true (by first | (with_reducible assumption) | assumption)
               have q196 : x49_3 < (l1.length : Int) := of_decide_eq_true (by first | (with_reducible assumption) | assumption)
               obtain ⟨ad196, e196, hx196_0⟩ := Kd.at_int HR1.out x49_3 p196 q196
               cases e196
               replace hx196_0 := (HB.out.cell (World.block_lt_of_cell? w _ hx196_0)).trans hx196_0
               replace p196 := eq_true p196
               replace q196 := eq_true q196
               have p197 : 0 ≤ ((rd l1 x49_3) : Int) := of_decide_eq_true (by first | (with_reducible assumption) | assumption)
               have q197 : (rd l1 x49_3) < (l0.length : Int) := of_decide_eq_true (by first | (with_reducible assumption) | assumption)
               obtain ⟨ad197, e197, hx197_0⟩ := Kd.at_string HR0.out (rd l1 x49_3) p197 q197
               obtain rfl : ad194 = ad197 := (by injection e197)
               replace hx197_0 := (HB.out.cell (World.block_lt_of_cell? w _ hx197_0)).trans hx197_0
               replace p197 := eq_true p197
               replace q197 := eq_true q197
               go_wp2_with (first | ((with_reducible refine gate_callee (f := 38) rfl ?_); refine goesL_ (some 58) rfl rfl Try.func38 (by kernel_rfl) rfl #[.string x8_3, .string (rdOf ByteArray.empty l0 (rd l1 x49_3))] rfl (by (try simp only [List.map_toArray, List.map_cons, List.map_nil]); first | done | rfl | (simp only [List.length_drop, List.length_take]; rfl)) ?_; (with_reducible refine (impl_xor.calls x8_3 (rdOf ByteArray.empty l0 (rd l1 x49_3)) t198 _ A22.out).mono ?_); rintro e w23 ⟨rfl, hb⟩; refine ⟨_, rfl, ?_⟩; have n0_ := Aside0.mk (below_step (gB HB.out) hb); clear HB; have HB := n0_; clear n0_; (try clear hb); (try clear hb2); (try clear hk); (try clear hi)))
               go_roundg k3
               case measure => have := HJ2.out; have := HK2.out; have := HK3.out; omega
               case rel => exact ⟨(t198), (wrap64 (x49_3 + 1)), (by first | rfl | (simp; done) | (simp [*]; done) | (simp [wrap64]; done)), (by first | rfl | (simp; done) | (simp [*]; done) | (simp [wrap64]; done)), H', ⟨by have := HJ2.out; have := HK2.out; have := HK3.out; omega⟩, ⟨by repeat (first | (with_reducible first | exact HB.out | apply below_alloc | apply pw_below_drewN | apply below_drew1) | exact HB.out)⟩⟩
              ·rw [if_neg c21] at H
               exact absurd H (by simp)
             ·rw [if_neg c20] at H
              exact absurd H (by simp)
            ·rw [if_neg c19] at H
             exact absurd H (by simp)
           ·rw [if_neg c18] at H
            exact absurd H (by simp)
          ·rw [if_neg c17] at H
           have c17b0 : decide (x49_3 < (l1.length : Int)) = false := decide_eq_false c17
           clear c17
           simp only [Option.some.injEq, Prod.mk.injEq] at H
           obtain ⟨rfl, rfl⟩ := H
           go_wp2
           go_ret2
           exact ⟨by first | rfl | (simp [errW_none, errW_some] <;> rfl) | (simp [*, errW_none, errW_some] <;> rfl), by repeat (first | (with_reducible first | exact HB.out | apply below_alloc | apply pw_below_drewN | apply below_drew1) | exact HB.out)⟩
       ·rw [if_neg c14] at H
        exact absurd H (by simp)

end Go.Proofs.Ytbgheffgkncpgaa.X
