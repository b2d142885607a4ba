/- Printed for this claim by the session's program (the kit's printer, several laws in one place): the functions that the law reaches, each as a plain Lean function, and the proof that the Go code comes to its answers. Conditions: none beside those that each theorem states. -/
import Derived.Test.YtmmpkkjaeakplaaXx0
import Derived.Test.YtmmpkkjaeakplaaXx9
import Derived.Test.YtmmpkkjaeakplaaXx24
import Derived.Test.YtmmpkkjaeakplaaXx26
import Derived.Test.YtmmpkkjaeakplaaXx27
namespace Go.Proofs.Ytmmpkkjaeakplaa.X
open Go.RowKit Go.Proofs.YtmmpkkjaeakplaaW.PrintWords Go.Proofs.YtmmpkkjaeakplaaW.PrintLast Go.Proofs.YtmmpkkjaeakplaaW.PrintMore
attribute [local go_sem] max2_int min2_int max_two min_two max_three min_three max_four min_four   -- for this text's walks alone
set_option linter.unusedVariables false
set_option linter.unusedSimpArgs false

/-! ### laws_FnDegrees: function 13 -/
mutual
def laws_FnDegrees.j0 : Nat → Int → Int → List Int → Int → Bool → Option (Bool)
  | 0, _, _, _, _, _ => none
  | k + 1, x3, x4, x5, x6, x34 => if x34 = true then (some false) else (if (x5.length : Int) = 0 then (laws_FnDegrees.j1 k x3 x4 x5 x6 true) else (if x4 < 0 then (laws_FnDegrees.j1 k x3 x4 x5 x6 true) else (laws_FnDegrees.j1 k x3 x4 x5 x6 (decide (x4 ≥ 65536)))))
def laws_FnDegrees.j1 : Nat → Int → Int → List Int → Int → Bool → Option (Bool)
  | 0, _, _, _, _, _ => none
  | k + 1, x3, x4, x5, x6, x45 => if x45 = true then (some (x6 == 0)) else (laws_FnDegrees.l0 k x3 x4 x5 x6 0 0 0)
def laws_FnDegrees.l0 : Nat → Int → Int → List Int → Int → Int → Int → Int → Option (Bool)
  | 0, _, _, _, _, _, _, _ => none
  | k + 1, x3, x4, x5, x6, x7, x8, x9 => if x9 < (x5.length : Int) then (if 0 ≤ x9 then (if (rd x5 x9) < 0 then (some false) else (if (wrap64 (x9 + 1)) < x6 then (laws_FnDegrees.l0 k x3 x4 x5 x6 (wrap64 (x7 + (rd x5 x9))) (wrap64 (x8 + (rd x5 x9))) (wrap64 (x9 + 1))) else (laws_FnDegrees.l0 k x3 x4 x5 x6 (wrap64 (x7 + (rd x5 x9))) x8 (wrap64 (x9 + 1))))) else (none)) else (if x7 = 65536 then (if (x5.length : Int) = x3 then ((laws_whIn.f x6 1 x3).bind fun t588 => (if t588 = true then (if x4 ≥ x8 then (if 0 ≤ (wrap64 (x6 - 1)) then (if (wrap64 (x6 - 1)) < (x5.length : Int) then (some (decide (x4 < (wrap64 (x8 + (rd x5 (wrap64 (x6 - 1)))))))) else (none)) else (none)) else (some false)) else (some false))) else (some false)) else (some false))
end
def laws_FnDegrees.f (k : Nat) (l0 : List Int) : Option (Bool) := if (l0.length : Int) > 1048576 then (some true) else ((spec_DrawDegreeOf.f k l0).bind fun bt577 => ((impl_Degrees.f k bt577.1).bind fun t579 => ((impl_DegreeOf.f k bt577.1 bt577.2).bind fun t582 => ((spec_Degrees.f k bt577.1).bind fun t583 => ((laws_whInts.f k t579 t583).bind fun t586 => (if t586 = true then ((spec_DegreeOf.f k bt577.1 bt577.2).bind fun t587 => (laws_FnDegrees.j0 k bt577.1 bt577.2 t579 t582 (t582 != t587))) else (laws_FnDegrees.j0 k bt577.1 bt577.2 t579 t582 true)))))))
theorem laws_FnDegrees.mono_l : ∀ k, (∀ y0 y1 y2 y3 y4, LeO (laws_FnDegrees.j0 k y0 y1 y2 y3 y4) (laws_FnDegrees.j0 (k + 1) y0 y1 y2 y3 y4)) ∧ (∀ y0 y1 y2 y3 y4, LeO (laws_FnDegrees.j1 k y0 y1 y2 y3 y4) (laws_FnDegrees.j1 (k + 1) y0 y1 y2 y3 y4)) ∧ (∀ y0 y1 y2 y3 y4 y5 y6, LeO (laws_FnDegrees.l0 k y0 y1 y2 y3 y4 y5 y6) (laws_FnDegrees.l0 (k + 1) y0 y1 y2 y3 y4 y5 y6))
  | 0 => ⟨fun _ _ _ _ _ r h => by simp [laws_FnDegrees.j0] at h, fun _ _ _ _ _ r h => by simp [laws_FnDegrees.j1] at h, fun _ _ _ _ _ _ _ r h => by simp [laws_FnDegrees.l0] at h⟩
  | k + 1 => by
    obtain ⟨ih0, ih1, ih2⟩ := laws_FnDegrees.mono_l k
    refine ⟨?_, ?_, ?_⟩
    · intro y0 y1 y2 y3 y4
      unfold laws_FnDegrees.j0
      repeat' first
      | (with_reducible exact ih0 _ _ _ _ _)
      | (with_reducible exact ih1 _ _ _ _ _)
      | (with_reducible exact ih2 _ _ _ _ _ _ _)
      | (with_reducible exact impl_DegreeOf.mono _ _ _)
      | (with_reducible exact impl_Degrees.mono _ _)
      | (with_reducible exact laws_whInts.mono _ _ _)
      | (with_reducible exact spec_DegreeOf.mono _ _ _)
      | (with_reducible exact spec_Degrees.mono _ _)
      | (with_reducible exact spec_DrawDegreeOf.mono _ _)
      | (with_reducible exact LeO.refl _)
      | (with_reducible exact LeO.none _)
      | (with_reducible refine LeO.ite ?_ ?_)
      | (with_reducible refine LeO.bind ?_ (fun _ => ?_))
      | exact ih0 _ _ _ _ _
      | exact ih1 _ _ _ _ _
      | exact ih2 _ _ _ _ _ _ _
      | exact impl_DegreeOf.mono _ _ _
      | exact impl_Degrees.mono _ _
      | exact laws_whInts.mono _ _ _
      | exact spec_DegreeOf.mono _ _ _
      | exact spec_Degrees.mono _ _
      | exact spec_DrawDegreeOf.mono _ _
      | exact LeO.none _
      | refine LeO.ite ?_ ?_
      | refine LeO.bind ?_ (fun _ => ?_)
    · intro y0 y1 y2 y3 y4
      unfold laws_FnDegrees.j1
      repeat' first
      | (with_reducible exact ih0 _ _ _ _ _)
      | (with_reducible exact ih1 _ _ _ _ _)
      | (with_reducible exact ih2 _ _ _ _ _ _ _)
      | (with_reducible exact impl_DegreeOf.mono _ _ _)
      | (with_reducible exact impl_Degrees.mono _ _)
      | (with_reducible exact laws_whInts.mono _ _ _)
      | (with_reducible exact spec_DegreeOf.mono _ _ _)
      | (with_reducible exact spec_Degrees.mono _ _)
      | (with_reducible exact spec_DrawDegreeOf.mono _ _)
      | (with_reducible exact LeO.refl _)
      | (with_reducible exact LeO.none _)
      | (with_reducible refine LeO.ite ?_ ?_)
      | (with_reducible refine LeO.bind ?_ (fun _ => ?_))
      | exact ih0 _ _ _ _ _
      | exact ih1 _ _ _ _ _
      | exact ih2 _ _ _ _ _ _ _
      | exact impl_DegreeOf.mono _ _ _
      | exact impl_Degrees.mono _ _
      | exact laws_whInts.mono _ _ _
      | exact spec_DegreeOf.mono _ _ _
      | exact spec_Degrees.mono _ _
      | exact spec_DrawDegreeOf.mono _ _
      | exact LeO.none _
      | refine LeO.ite ?_ ?_
      | refine LeO.bind ?_ (fun _ => ?_)
    · intro y0 y1 y2 y3 y4 y5 y6
      unfold laws_FnDegrees.l0
      repeat' first
      | (with_reducible exact ih0 _ _ _ _ _)
      | (with_reducible exact ih1 _ _ _ _ _)
      | (with_reducible exact ih2 _ _ _ _ _ _ _)
      | (with_reducible exact impl_DegreeOf.mono _ _ _)
      | (with_reducible exact impl_Degrees.mono _ _)
      | (with_reducible exact laws_whInts.mono _ _ _)
      | (with_reducible exact spec_DegreeOf.mono _ _ _)
      | (with_reducible exact spec_Degrees.mono _ _)
      | (with_reducible exact spec_DrawDegreeOf.mono _ _)
      | (with_reducible exact LeO.refl _)
      | (with_reducible exact LeO.none _)
      | (with_reducible refine LeO.ite ?_ ?_)
      | (with_reducible refine LeO.bind ?_ (fun _ => ?_))
      | exact ih0 _ _ _ _ _
      | exact ih1 _ _ _ _ _
      | exact ih2 _ _ _ _ _ _ _
      | exact impl_DegreeOf.mono _ _ _
      | exact impl_Degrees.mono _ _
      | exact laws_whInts.mono _ _ _
      | exact spec_DegreeOf.mono _ _ _
      | exact spec_Degrees.mono _ _
      | exact spec_DrawDegreeOf.mono _ _
      | exact LeO.none _
      | refine LeO.ite ?_ ?_
      | refine LeO.bind ?_ (fun _ => ?_)
theorem laws_FnDegrees.mono : ∀ a0 k, LeO (laws_FnDegrees.f k a0) (laws_FnDegrees.f (k + 1) a0) := by
  intro a0 k
  obtain ⟨ih0, ih1, ih2⟩ := laws_FnDegrees.mono_l k
  unfold laws_FnDegrees.f
  repeat' first
      | (with_reducible exact ih0 _ _ _ _ _)
      | (with_reducible exact ih1 _ _ _ _ _)
      | (with_reducible exact ih2 _ _ _ _ _ _ _)
      | (with_reducible exact impl_DegreeOf.mono _ _ _)
      | (with_reducible exact impl_Degrees.mono _ _)
      | (with_reducible exact laws_whInts.mono _ _ _)
      | (with_reducible exact spec_DegreeOf.mono _ _ _)
      | (with_reducible exact spec_Degrees.mono _ _)
      | (with_reducible exact spec_DrawDegreeOf.mono _ _)
      | (with_reducible exact LeO.refl _)
      | (with_reducible exact LeO.none _)
      | (with_reducible refine LeO.ite ?_ ?_)
      | (with_reducible refine LeO.bind ?_ (fun _ => ?_))
      | exact ih0 _ _ _ _ _
      | exact ih1 _ _ _ _ _
      | exact ih2 _ _ _ _ _ _ _
      | exact impl_DegreeOf.mono _ _ _
      | exact impl_Degrees.mono _ _
      | exact laws_whInts.mono _ _ _
      | exact spec_DegreeOf.mono _ _ _
      | exact spec_Degrees.mono _ _
      | exact spec_DrawDegreeOf.mono _ _
      | exact LeO.none _
      | refine LeO.ite ?_ ?_
      | refine LeO.bind ?_ (fun _ => ?_)
set_option maxHeartbeats 8000000 in
set_option maxRecDepth 100000 in
theorem laws_FnDegrees.calls (k : Nat) (A0 : Option Addr) (c0 : Nat) (l0 : List Int) (w : World) (hr0 : Kd.C (Kd.int .u8) w A0 l0.length l0) (hc0 : l0.length ≤ c0) (h : laws_FnDegrees.f k l0 = some true) :
    Calls Try.prog 13 #[.slice A0 l0.length c0] w fun e w' => e = .returned (.bool true) ∧ Below w.heap.size w w' := by
  have HR0 := Aside0.mk hr0
  have HC0 := Aside0.mk hc0
  clear hr0 hc0
  have HB := Aside0.mk (Below.refl w.heap.size w)
  have H : (if (l0.length : Int) > 1048576 then (some true) else ((spec_DrawDegreeOf.f k l0).bind fun bt577 => ((impl_Degrees.f k bt577.1).bind fun t579 => ((impl_DegreeOf.f k bt577.1 bt577.2).bind fun t582 => ((spec_Degrees.f k bt577.1).bind fun t583 => ((laws_whInts.f k t579 t583).bind fun t586 => (if t586 = true then ((spec_DegreeOf.f k bt577.1 bt577.2).bind fun t587 => (laws_FnDegrees.j0 k bt577.1 bt577.2 t579 t582 (t582 != t587))) else (laws_FnDegrees.j0 k bt577.1 bt577.2 t579 t582 true)))))))) = some true := h
  clear h
  by_cases c2 : (l0.length : Int) > 1048576
  · rw [if_pos c2] at H
    have c2b0 : decide (1048576 < (l0.length : Int)) = true := decide_eq_true c2
    have c2b1 : decide (1048576 < l0.length) = true := decide_eq_true (by omega)
    clear c2
    clear H
    go_enter Try.func13, Try.ntmps13
    go_wp2
    go_ret
    exact ⟨by first | rfl | (simp [errW_none, errW_some] <;> rfl) | (simp [*, errW_none, errW_some] <;> rfl), by repeat (first | (with_reducible first | exact HB.out | apply below_alloc | apply pw_below_drewN | apply below_drew1) | exact HB.out)⟩
  · rw [if_neg c2] at H
    have c2b0 : decide (1048576 < (l0.length : Int)) = false := decide_eq_false c2
    have c2b1 : decide (1048576 < l0.length) = false := decide_eq_false (by omega)
    clear c2
    replace H := Option.bind_eq_some_iff.mp H
    obtain ⟨⟨t577, t578⟩, A30, H⟩ := H
    replace H : ((impl_Degrees.f k t577).bind fun t579 => ((impl_DegreeOf.f k t577 t578).bind fun t582 => ((spec_Degrees.f k t577).bind fun t583 => ((laws_whInts.f k t579 t583).bind fun t586 => (if t586 = true then ((spec_DegreeOf.f k t577 t578).bind fun t587 => (laws_FnDegrees.j0 k t577 t578 t579 t582 (t582 != t587))) else (laws_FnDegrees.j0 k t577 t578 t579 t582 true)))))) = some true := H
    have A3 := Aside0.mk A30
    clear A30
    replace H := Option.bind_eq_some_iff.mp H
    obtain ⟨t579, A40, H⟩ := H
    replace H : ((impl_DegreeOf.f k t577 t578).bind fun t582 => ((spec_Degrees.f k t577).bind fun t583 => ((laws_whInts.f k t579 t583).bind fun t586 => (if t586 = true then ((spec_DegreeOf.f k t577 t578).bind fun t587 => (laws_FnDegrees.j0 k t577 t578 t579 t582 (t582 != t587))) else (laws_FnDegrees.j0 k t577 t578 t579 t582 true))))) = some true := H
    have A4 := Aside0.mk A40
    clear A40
    replace H := Option.bind_eq_some_iff.mp H
    obtain ⟨t582, A50, H⟩ := H
    replace H : ((spec_Degrees.f k t577).bind fun t583 => ((laws_whInts.f k t579 t583).bind fun t586 => (if t586 = true then ((spec_DegreeOf.f k t577 t578).bind fun t587 => (laws_FnDegrees.j0 k t577 t578 t579 t582 (t582 != t587))) else (laws_FnDegrees.j0 k t577 t578 t579 t582 true)))) = some true := H
    have A5 := Aside0.mk A50
    clear A50
    have HC6 := Aside0.mk H
    clear H
    go_enter Try.func13, Try.ntmps13
    go_upto_region 6 with (first | ((with_reducible refine gate_callee (f := 42) rfl ?_); refine goesL_ (some 15) rfl rfl Try.func42 (by kernel_rfl) rfl #[.slice A0 l0.length c0] rfl (by (try simp only [List.map_toArray, List.map_cons, List.map_nil]); first | done | rfl | (simp only [List.length_drop, List.length_take]; rfl)) ?_; (with_reducible refine (spec_DrawDegreeOf.calls k _ _ l0 t577 t578 _ ?side1 ?side2 A3.out).mono ?_); (case side1 => repeat (first | exact HR0.out | (with_reducible refine Kd.C_alloc ?_ _) | (with_reducible refine Kd.C_drewN ?_ _) | (with_reducible refine Kd.C_drew ?_))); (case side2 => exact HC0.out); rintro e w7 ⟨rfl, hb⟩; refine ⟨_, rfl, ?_⟩; have n0_ := Aside0.mk (below_step (by repeat (first | (with_reducible first | exact HB.out | apply below_alloc | apply pw_below_drewN | apply below_drew1) | exact HB.out)) hb); clear HB; have HB := n0_; clear n0_; (try clear hb); (try clear hb2); (try clear hk); (try clear hi)) | ((with_reducible refine gate_callee (f := 43) rfl ?_); refine goesL_ (some 19) rfl rfl Try.func43 (by kernel_rfl) rfl #[.int .i64 t577] rfl (by (try simp only [List.map_toArray, List.map_cons, List.map_nil]); first | done | rfl | (simp only [List.length_drop, List.length_take]; rfl)) ?_; (with_reducible refine (impl_Degrees.calls k t577 t579 _ A4.out).mono ?_); rintro e w8 ⟨v580, rfl, ho0, hb⟩; refine ⟨_, rfl, ?_⟩; have n0_ := Aside0.mk (Kd.R_lower ho0 (below_size (by repeat (first | (with_reducible first | exact HB.out | apply below_alloc | apply pw_below_drewN | apply below_drew1) | exact HB.out)))); have n1_ := Aside0.mk (below_step (by repeat (first | (with_reducible first | exact HB.out | apply below_alloc | apply pw_below_drewN | apply below_drew1) | exact HB.out)) hb); clear HB; have HO581 := n0_; have HB := n1_; clear n0_ n1_; (try clear hb); (try clear hb2); (try clear hk); (try clear hi); (try clear ho0)) | ((with_reducible refine gate_callee (f := 44) rfl ?_); refine goesL_ (some 22) rfl rfl Try.func44 (by kernel_rfl) rfl #[.int .i64 t577, .int .i64 t578] rfl (by (try simp only [List.map_toArray, List.map_cons, List.map_nil]); first | done | rfl | (simp only [List.length_drop, List.length_take]; rfl)) ?_; (with_reducible refine (impl_DegreeOf.calls k t577 t578 t582 _ A5.out).mono ?_); rintro e w9 ⟨rfl, hb⟩; refine ⟨_, rfl, ?_⟩; have n0_ := Aside0.mk (Kd.R_below (by (with_reducible repeat (first | apply Kd.R_alloc | apply Kd.R_drewN | apply Kd.R_drew)); exact HO581.out) hb); have n1_ := Aside0.mk (below_step (by repeat (first | (with_reducible first | exact HB.out | apply below_alloc | apply pw_below_drewN | apply below_drew1) | exact HB.out)) hb); clear HO581; clear HB; have HO581 := n0_; have HB := n1_; clear n0_ n1_; (try clear hb); (try clear hb2); (try clear hk); (try clear hi)))
    (try simp only [Act.put, List.setIfInBounds_toArray, List.set_cons_zero, List.set_cons_succ])
    go_cut [34] (fun v34 wc => ∃ (kq : Nat) (x34_5 : Bool), v34 = .bool x34_5 ∧ Aside0 (laws_FnDegrees.j0 kq t577 t578 t579 t582 x34_5 = some true) ∧ Aside0 (kq ≤ k) ∧ Aside0 (Kd.R (Kd.int .i64) 3 wc w.heap.size (fun _ => True) v580 t579) ∧ Aside0 (Below w.heap.size w wc))
    case first =>
      have H := HC6.out
      clear HC6
      replace H := Option.bind_eq_some_iff.mp H
      obtain ⟨t583, A100, H⟩ := H
      replace H : ((laws_whInts.f k t579 t583).bind fun t586 => (if t586 = true then ((spec_DegreeOf.f k t577 t578).bind fun t587 => (laws_FnDegrees.j0 k t577 t578 t579 t582 (t582 != t587))) else (laws_FnDegrees.j0 k t577 t578 t579 t582 true))) = some true := H
      have A10 := Aside0.mk A100
      clear A100
      replace H := Option.bind_eq_some_iff.mp H
      obtain ⟨t586, A110, H⟩ := H
      replace H : (if t586 = true then ((spec_DegreeOf.f k t577 t578).bind fun t587 => (laws_FnDegrees.j0 k t577 t578 t579 t582 (t582 != t587))) else (laws_FnDegrees.j0 k t577 t578 t579 t582 true)) = some true := H
      have A11 := Aside0.mk A110
      clear A110
      by_cases c12 : t586 = true
      · subst c12
        have H1 : ((spec_DegreeOf.f k t577 t578).bind fun t587 => (laws_FnDegrees.j0 k t577 t578 t579 t582 (t582 != t587))) = some true := by rw [if_pos rfl] at H; exact H
        clear H
        have H := H1
        clear H1
        replace H := Option.bind_eq_some_iff.mp H
        obtain ⟨t587, A130, H⟩ := H
        replace H : (laws_FnDegrees.j0 k t577 t578 t579 t582 (t582 != t587)) = some true := H
        have A13 := Aside0.mk A130
        clear A130
        have H' := Aside0.mk H
        clear H
        go_wp2_with (first | ((with_reducible refine gate_callee (f := 46) rfl ?_); refine goesL_ (some 25) rfl rfl Try.func46 (by kernel_rfl) rfl #[.int .i64 t577] rfl (by (try simp only [List.map_toArray, List.map_cons, List.map_nil]); first | done | rfl | (simp only [List.length_drop, List.length_take]; rfl)) ?_; (with_reducible refine (spec_Degrees.calls k t577 t583 _ A10.out).mono ?_); rintro e w14 ⟨v584, rfl, ho0, hb⟩; refine ⟨_, rfl, ?_⟩; have n0_ := Aside0.mk (Kd.R_elder' (by (with_reducible repeat (first | apply Kd.R_alloc | apply Kd.R_drewN | apply Kd.R_drew)); exact HO581.out) (Kd.R_base ho0) hb); have n1_ := Aside0.mk (Kd.R_lower (Kd.R_new' ho0 (Kd.R_lt (by (with_reducible repeat (first | apply Kd.R_alloc | apply Kd.R_drewN | apply Kd.R_drew)); exact HO581.out))) (below_size (by repeat (first | (with_reducible first | exact HB.out | apply below_alloc | apply pw_below_drewN | apply below_drew1) | exact HB.out)))); have n2_ := Aside0.mk (below_step (by repeat (first | (with_reducible first | exact HB.out | apply below_alloc | apply pw_below_drewN | apply below_drew1) | exact HB.out)) hb); clear HO581; clear HB; have HO581 := n0_; have HO585 := n1_; have HB := n2_; clear n0_ n1_ n2_; (try clear hb); (try clear hb2); (try clear hk); (try clear hi); (try clear ho0); obtain ⟨Ao15, co15, eo15⟩ := Kd.R_slice HO581.out; subst eo15; obtain ⟨Ao16, co16, eo16⟩ := Kd.R_slice HO585.out; subst eo16) | ((with_reducible refine gate_callee (f := 45) rfl ?_); refine goesL_ (some 26) rfl rfl Try.func45 (by kernel_rfl) rfl #[.slice Ao15 t579.length co15, .slice Ao16 t583.length co16] rfl (by (try simp only [List.map_toArray, List.map_cons, List.map_nil]); first | done | rfl | (simp only [List.length_drop, List.length_take]; rfl)) ?_; (with_reducible refine (laws_whInts.calls k _ _ t579 _ _ t583 true _ ?side1 ?side2 ?side3 ?side4 A11.out).mono ?_); (case side1 => repeat (first | exact (Kd.R_reads' HO581.out).2.2 | (with_reducible refine Kd.C_alloc ?_ _) | (with_reducible refine Kd.C_drewN ?_ _) | (with_reducible refine Kd.C_drew ?_))); (case side2 => exact (Kd.R_reads' HO581.out).2.1); (case side3 => repeat (first | exact (Kd.R_reads' HO585.out).2.2 | (with_reducible refine Kd.C_alloc ?_ _) | (with_reducible refine Kd.C_drewN ?_ _) | (with_reducible refine Kd.C_drew ?_))); (case side4 => exact (Kd.R_reads' HO585.out).2.1); rintro e w' ⟨rfl, ⟨nd, rfl⟩⟩; refine ⟨_, rfl, ?_⟩) | (go_at_call 47; (with_reducible refine (spec_DegreeOf.calls k t577 t578 t587 _ A13.out).mono ?_); rintro e w17 ⟨rfl, hb⟩; have n0_ := Aside0.mk (Kd.R_below (by (with_reducible repeat (first | apply Kd.R_alloc | apply Kd.R_drewN | apply Kd.R_drew)); exact HO581.out) hb); have n1_ := Aside0.mk (Kd.R_below (by (with_reducible repeat (first | apply Kd.R_alloc | apply Kd.R_drewN | apply Kd.R_drew)); exact HO585.out) hb); have n2_ := Aside0.mk (below_step (by repeat (first | (with_reducible first | exact HB.out | apply below_alloc | apply pw_below_drewN | apply below_drew1) | exact HB.out)) hb); clear HO581; clear HO585; clear HB; have HO581 := n0_; have HO585 := n1_; have HB := n2_; clear n0_ n1_ n2_; (try clear hb); (try clear hb2); (try clear hk); (try clear hi)))
        all_goals
          go_meet
          case rel => exact ⟨_, ((t582 != t587)), (by first | rfl | (simp; done) | (simp [*]; done) | (simp [wrap64]; done)), H', ⟨by first | omega | exact Nat.le_refl _⟩, ⟨by (with_reducible repeat (first | apply Kd.R_alloc | apply Kd.R_drewN | apply Kd.R_drew)); exact Kd.R_mono HO581.out (fun _ hk => trivial)⟩, ⟨by repeat (first | (with_reducible first | exact HB.out | apply below_alloc | apply pw_below_drewN | apply below_drew1) | exact HB.out)⟩⟩
      · replace c12 := Bool.eq_false_iff.mpr c12
        subst c12
        have H1 : (laws_FnDegrees.j0 k t577 t578 t579 t582 true) = some true := by rw [if_neg (show ¬ (false = true) by decide)] at H; exact H
        clear H
        have H := H1
        clear H1
        have H' := Aside0.mk H
        clear H
        go_wp2_with (first | ((with_reducible refine gate_callee (f := 46) rfl ?_); refine goesL_ (some 25) rfl rfl Try.func46 (by kernel_rfl) rfl #[.int .i64 t577] rfl (by (try simp only [List.map_toArray, List.map_cons, List.map_nil]); first | done | rfl | (simp only [List.length_drop, List.length_take]; rfl)) ?_; (with_reducible refine (spec_Degrees.calls k t577 t583 _ A10.out).mono ?_); rintro e w18 ⟨v584, rfl, ho0, hb⟩; refine ⟨_, rfl, ?_⟩; have n0_ := Aside0.mk (Kd.R_elder' (by (with_reducible repeat (first | apply Kd.R_alloc | apply Kd.R_drewN | apply Kd.R_drew)); exact HO581.out) (Kd.R_base ho0) hb); have n1_ := Aside0.mk (Kd.R_lower (Kd.R_new' ho0 (Kd.R_lt (by (with_reducible repeat (first | apply Kd.R_alloc | apply Kd.R_drewN | apply Kd.R_drew)); exact HO581.out))) (below_size (by repeat (first | (with_reducible first | exact HB.out | apply below_alloc | apply pw_below_drewN | apply below_drew1) | exact HB.out)))); have n2_ := Aside0.mk (below_step (by repeat (first | (with_reducible first | exact HB.out | apply below_alloc | apply pw_below_drewN | apply below_drew1) | exact HB.out)) hb); clear HO581; clear HB; have HO581 := n0_; have HO585 := n1_; have HB := n2_; clear n0_ n1_ n2_; (try clear hb); (try clear hb2); (try clear hk); (try clear hi); (try clear ho0); obtain ⟨Ao19, co19, eo19⟩ := Kd.R_slice HO581.out; subst eo19; obtain ⟨Ao20, co20, eo20⟩ := Kd.R_slice HO585.out; subst eo20) | ((with_reducible refine gate_callee (f := 45) rfl ?_); refine goesL_ (some 26) rfl rfl Try.func45 (by kernel_rfl) rfl #[.slice Ao19 t579.length co19, .slice Ao20 t583.length co20] rfl (by (try simp only [List.map_toArray, List.map_cons, List.map_nil]); first | done | rfl | (simp only [List.length_drop, List.length_take]; rfl)) ?_; (with_reducible refine (laws_whInts.calls k _ _ t579 _ _ t583 false _ ?side1 ?side2 ?side3 ?side4 A11.out).mono ?_); (case side1 => repeat (first | exact (Kd.R_reads' HO581.out).2.2 | (with_reducible refine Kd.C_alloc ?_ _) | (with_reducible refine Kd.C_drewN ?_ _) | (with_reducible refine Kd.C_drew ?_))); (case side2 => exact (Kd.R_reads' HO581.out).2.1); (case side3 => repeat (first | exact (Kd.R_reads' HO585.out).2.2 | (with_reducible refine Kd.C_alloc ?_ _) | (with_reducible refine Kd.C_drewN ?_ _) | (with_reducible refine Kd.C_drew ?_))); (case side4 => exact (Kd.R_reads' HO585.out).2.1); rintro e w' ⟨rfl, ⟨nd, rfl⟩⟩; refine ⟨_, rfl, ?_⟩))
        all_goals
          go_meet
          case rel => exact ⟨_, (true), (by first | rfl | (simp; done) | (simp [*]; done) | (simp [wrap64]; done)), H', ⟨by first | omega | exact Nat.le_refl _⟩, ⟨by (with_reducible repeat (first | apply Kd.R_alloc | apply Kd.R_drewN | apply Kd.R_drew)); exact Kd.R_mono HO581.out (fun _ hk => trivial)⟩, ⟨by repeat (first | (with_reducible first | exact HB.out | apply below_alloc | apply pw_below_drewN | apply below_drew1) | exact HB.out)⟩⟩
    case rest =>
      clear HC6
      try clear c1
      try clear c2
      try clear c2b0
      try clear c2b1
      try clear p2
      try clear c4
      try clear c12
      try clear c13
      obtain ⟨kq, x34_5, rfl, HA, HJ5, HO_5, HB⟩ := hcut
      cases kq with
      | zero => exact absurd HA.out (by simp [laws_FnDegrees.j0])
      | succ kj5 =>
        have H := HA.out
        clear HA
        simp only [laws_FnDegrees.j0] at H
        by_cases c21 : x34_5 = true
        · subst c21
          have H1 : (some false) = some true := by rw [if_pos rfl] at H; exact H
          clear H
          have H := H1
          clear H1
          exact absurd H (by simp)
        · replace c21 := Bool.eq_false_iff.mpr c21
          subst c21
          have H1 : (if (t579.length : Int) = 0 then (laws_FnDegrees.j1 kj5 t577 t578 t579 t582 true) else (if t578 < 0 then (laws_FnDegrees.j1 kj5 t577 t578 t579 t582 true) else (laws_FnDegrees.j1 kj5 t577 t578 t579 t582 (decide (t578 ≥ 65536))))) = some true := by rw [if_neg (show ¬ (false = true) by decide)] at H; exact H
          clear H
          have H := H1
          clear H1
          have HC22 := Aside0.mk H
          clear H
          go_upto_region 8 with (fail)
          go_cut [45] (fun v45 wc => ∃ (kq : Nat) (x45_21 : Bool), v45 = .bool x45_21 ∧ Aside0 (laws_FnDegrees.j1 kq t577 t578 t579 t582 x45_21 = some true) ∧ Aside0 (kq ≤ kj5) ∧ Aside0 (Kd.R (Kd.int .i64) 3 wc w.heap.size (fun _ => True) v580 t579) ∧ Aside0 (Below w.heap.size w wc))
          case first =>
            have H := HC22.out
            clear HC22
            by_cases c23 : (t579.length : Int) = 0
            · rw [if_pos c23] at H
              have c23b0 : ((t579.length : Int) == 0) = true := beq_iff_eq.mpr c23
              have c23b1 : ((t579.length : Int) != 0) = false := bne_eq_false_iff_eq.mpr c23
              clear c23
              (first | rw [c23b0] | (simp only [i64_w, i32_w]; rw [c23b0]) | skip)
              have H' := Aside0.mk H
              clear H
              obtain ⟨Ao24, co24, eo24⟩ := Kd.R_slice HO_5.out
              subst eo24
              go_wp2
              all_goals
                go_meet
                case rel => exact ⟨_, (true), (by first | rfl | (simp; done) | (simp [*]; done) | (simp [wrap64]; done)), H', ⟨by have := HJ5.out; first | omega | exact Nat.le_refl _⟩, ⟨by (with_reducible repeat (first | apply Kd.R_alloc | apply Kd.R_drewN | apply Kd.R_drew)); exact HO_5.out⟩, ⟨by repeat (first | (with_reducible first | exact HB.out | apply below_alloc | apply pw_below_drewN | apply below_drew1) | exact HB.out)⟩⟩
            · rw [if_neg c23] at H
              have c23b0 : ((t579.length : Int) == 0) = false := beq_eq_false_iff_ne.mpr c23
              have c23b1 : ((t579.length : Int) != 0) = true := bne_iff_ne.mpr c23
              have c23b2 : ¬ (t579 = []) := fun h_ => c23 (by rw [h_]; rfl)
              (first | rw [c23b0] | (simp only [i64_w, i32_w]; rw [c23b0]) | skip)
              by_cases c25 : t578 < 0
              · rw [if_pos c25] at H
                have c25b0 : decide (t578 < 0) = true := decide_eq_true c25
                clear c25
                have H' := Aside0.mk H
                clear H
                obtain ⟨Ao26, co26, eo26⟩ := Kd.R_slice HO_5.out
                subst eo26
                go_wp2
                all_goals
                  go_meet
                  case rel => exact ⟨_, (true), (by first | rfl | (simp; done) | (simp [*]; done) | (simp [wrap64]; done)), H', ⟨by have := HJ5.out; first | omega | exact Nat.le_refl _⟩, ⟨by (with_reducible repeat (first | apply Kd.R_alloc | apply Kd.R_drewN | apply Kd.R_drew)); exact HO_5.out⟩, ⟨by repeat (first | (with_reducible first | exact HB.out | apply below_alloc | apply pw_below_drewN | apply below_drew1) | exact HB.out)⟩⟩
              · rw [if_neg c25] at H
                have c25b0 : decide (t578 < 0) = false := decide_eq_false c25
                clear c25
                have H' := Aside0.mk H
                clear H
                obtain ⟨Ao27, co27, eo27⟩ := Kd.R_slice HO_5.out
                subst eo27
                go_wp2
                all_goals
                  go_meet
                  case rel => exact ⟨_, (decide (t578 ≥ 65536)), (by first | rfl | (simp; done) | (simp [*]; done) | (simp [wrap64]; done)), H', ⟨by have := HJ5.out; first | omega | exact Nat.le_refl _⟩, ⟨by (with_reducible repeat (first | apply Kd.R_alloc | apply Kd.R_drewN | apply Kd.R_drew)); exact HO_5.out⟩, ⟨by repeat (first | (with_reducible first | exact HB.out | apply below_alloc | apply pw_below_drewN | apply below_drew1) | exact HB.out)⟩⟩
          case rest =>
            clear HC22
            try clear c1
            try clear c2
            try clear c2b0
            try clear c2b1
            try clear p2
            try clear c4
            try clear c12
            try clear c13
            try clear c21
            try clear c23
            try clear c23b0
            try clear c23b1
            try clear c23b2
            try clear c25
            try clear c25b0
            try clear p2
            obtain ⟨kq, x45_21, rfl, HA, HJ21, HO_5, HB⟩ := hcut
            cases kq with
            | zero => exact absurd HA.out (by simp [laws_FnDegrees.j1])
            | succ kj21 =>
              have H := HA.out
              clear HA
              simp only [laws_FnDegrees.j1] at H
              by_cases c28 : x45_21 = true
              · subst c28
                have H1 : (some (t582 == 0)) = some true := by rw [if_pos rfl] at H; exact H
                clear H
                have H := H1
                clear H1
                have hres_ := Option.some.inj H
                clear H
                go_wp2
                go_ret
                exact ⟨by first | rfl | (simp [errW_none, errW_some] <;> rfl) | (simp [*, errW_none, errW_some] <;> rfl), by repeat (first | (with_reducible first | exact HB.out | apply below_alloc | apply pw_below_drewN | apply below_drew1) | exact HB.out)⟩
              · replace c28 := Bool.eq_false_iff.mpr c28
                subst c28
                have H1 : (laws_FnDegrees.l0 kj21 t577 t578 t579 t582 0 0 0) = some true := by rw [if_neg (show ¬ (false = true) by decide)] at H; exact H
                clear H
                have H := H1
                clear H1
                have H' := Aside0.mk H
                clear H
                go_wp2
                go_loopg [7, 8, 9] kj21 (fun kq v7 v8 v9 w' => ∃ (x7_3 : Int) (x8_3 : Int) (x9_3 : Int), v7 = .int .i64 x7_3 ∧ v8 = .int .i64 x8_3 ∧ v9 = .int .i64 x9_3 ∧ Aside0 (laws_FnDegrees.l0 kq t577 t578 t579 t582 x7_3 x8_3 x9_3 = some true) ∧ Aside0 (kq ≤ kj21) ∧ Aside0 (Kd.R (Kd.int .i64) 3 w' w.heap.size (fun _ => True) v580 t579) ∧ Aside0 (Below w.heap.size w w'))
                case atStart => exact ⟨(0), (0), (0), (by first | rfl | (simp; done) | (simp [*]; done) | (simp [wrap64]; done)), (by first | rfl | (simp; done) | (simp [*]; done) | (simp [wrap64]; done)), (by first | rfl | (simp; done) | (simp [*]; done) | (simp [wrap64]; done)), H', ⟨Nat.le_refl _⟩, ⟨by (with_reducible repeat (first | apply Kd.R_alloc | apply Kd.R_drewN | apply Kd.R_drew)); exact HO_5.out⟩, ⟨by repeat (first | (with_reducible first | exact HB.out | apply below_alloc | apply pw_below_drewN | apply below_drew1) | exact HB.out)⟩⟩
                case round =>
                  clear H'
                  try clear c1
                  try clear c2
                  try clear c2b0
                  try clear c2b1
                  try clear p2
                  try clear c4
                  try clear c12
                  try clear c13
                  try clear c21
                  try clear c23
                  try clear c23b0
                  try clear c23b1
                  try clear c23b2
                  try clear c25
                  try clear c25b0
                  try clear c28
                  try clear p2
                  obtain ⟨x7_3, x8_3, x9_3, rfl, rfl, rfl, HA, HK3, HO_5, HB⟩ := hrel
                  cases gk with
                  | zero => exact absurd HA.out (by simp [laws_FnDegrees.l0])
                  | succ k3 =>
                    have H := HA.out
                    clear HA
                    simp only [laws_FnDegrees.l0] at H
                    by_cases c29 : x9_3 < (t579.length : Int)
                    · rw [if_pos c29] at H
                      have c29b0 : decide (x9_3 < (t579.length : Int)) = true := decide_eq_true c29
                      clear c29
                      by_cases c30 : 0 ≤ x9_3
                      · rw [if_pos c30] at H
                        have c30b0 : decide (0 ≤ x9_3) = true := decide_eq_true c30
                        clear c30
                        by_cases c31 : (rd t579 x9_3) < 0
                        · rw [if_pos c31] at H
                          have c31b0 : decide ((rd t579 x9_3) < 0) = true := decide_eq_true c31
                          clear c31
                          exact absurd H (by simp)
                        · rw [if_neg c31] at H
                          have c31b0 : decide ((rd t579 x9_3) < 0) = false := decide_eq_false c31
                          clear c31
                          by_cases c32 : (wrap64 (x9_3 + 1)) < t582
                          · rw [if_pos c32] at H
                            have c32b0 : decide ((wrap64 (x9_3 + 1)) < t582) = true := decide_eq_true c32
                            clear c32
                            have H' := Aside0.mk H
                            clear H
                            obtain ⟨Ao33, co33, eo33⟩ := Kd.R_slice HO_5.out
                            subst eo33
                            have p590 : 0 ≤ (x9_3 : Int) := of_decide_eq_true (by first | (with_reducible assumption) | assumption)
                            have q590 : x9_3 < (t579.length : Int) := of_decide_eq_true (by first | (with_reducible assumption) | assumption)
                            obtain ⟨ad590, e590, hx590_0⟩ := Kd.at_int (Kd.R_reads' HO_5.out).2.2 x9_3 p590 q590
                            cases e590
                            replace p590 := eq_true p590
                            replace q590 := eq_true q590
                            have p591 : 0 ≤ (x9_3 : Int) := of_decide_eq_true (by first | (with_reducible assumption) | assumption)
                            have q591 : x9_3 < (t579.length : Int) := of_decide_eq_true (by first | (with_reducible assumption) | assumption)
                            obtain ⟨ad591, e591, hx591_0⟩ := Kd.at_int (Kd.R_reads' HO_5.out).2.2 x9_3 p591 q591
                            obtain rfl : ad590 = ad591 := (by injection e591)
                            replace p591 := eq_true p591
                            replace q591 := eq_true q591
                            have p592 : 0 ≤ (x9_3 : Int) := of_decide_eq_true (by first | (with_reducible assumption) | assumption)
                            have q592 : x9_3 < (t579.length : Int) := of_decide_eq_true (by first | (with_reducible assumption) | assumption)
                            obtain ⟨ad592, e592, hx592_0⟩ := Kd.at_int (Kd.R_reads' HO_5.out).2.2 x9_3 p592 q592
                            obtain rfl : ad590 = ad592 := (by injection e592)
                            replace p592 := eq_true p592
                            replace q592 := eq_true q592
                            go_wp2
                            go_roundg k3
                            case measure => have := HJ5.out; have := HJ21.out; have := HK3.out; omega
                            case rel => exact ⟨(wrap64 (x7_3 + (rd t579 x9_3))), (wrap64 (x8_3 + (rd t579 x9_3))), (wrap64 (x9_3 + 1)), (by first | rfl | (simp; done) | (simp [*]; done) | (simp [wrap64]; done)), (by first | rfl | (simp; done) | (simp [*]; done) | (simp [wrap64]; done)), (by first | rfl | (simp; done) | (simp [*]; done) | (simp [wrap64]; done)), H', ⟨by have := HJ5.out; have := HJ21.out; have := HK3.out; omega⟩, ⟨by (with_reducible repeat (first | apply Kd.R_alloc | apply Kd.R_drewN | apply Kd.R_drew)); exact HO_5.out⟩, ⟨by repeat (first | (with_reducible first | exact HB.out | apply below_alloc | apply pw_below_drewN | apply below_drew1) | exact HB.out)⟩⟩
                          · rw [if_neg c32] at H
                            have c32b0 : decide ((wrap64 (x9_3 + 1)) < t582) = false := decide_eq_false c32
                            clear c32
                            have H' := Aside0.mk H
                            clear H
                            obtain ⟨Ao34, co34, eo34⟩ := Kd.R_slice HO_5.out
                            subst eo34
                            have p590 : 0 ≤ (x9_3 : Int) := of_decide_eq_true (by first | (with_reducible assumption) | assumption)
                            have q590 : x9_3 < (t579.length : Int) := of_decide_eq_true (by first | (with_reducible assumption) | assumption)
                            obtain ⟨ad590, e590, hx590_0⟩ := Kd.at_int (Kd.R_reads' HO_5.out).2.2 x9_3 p590 q590
                            cases e590
                            replace p590 := eq_true p590
                            replace q590 := eq_true q590
                            have p593 : 0 ≤ (x9_3 : Int) := of_decide_eq_true (by first | (with_reducible assumption) | assumption)
                            have q593 : x9_3 < (t579.length : Int) := of_decide_eq_true (by first | (with_reducible assumption) | assumption)
                            obtain ⟨ad593, e593, hx593_0⟩ := Kd.at_int (Kd.R_reads' HO_5.out).2.2 x9_3 p593 q593
                            obtain rfl : ad590 = ad593 := (by injection e593)
                            replace p593 := eq_true p593
                            replace q593 := eq_true q593
                            go_wp2
                            go_roundg k3
                            case measure => have := HJ5.out; have := HJ21.out; have := HK3.out; omega
                            case rel => exact ⟨(wrap64 (x7_3 + (rd t579 x9_3))), (x8_3), (wrap64 (x9_3 + 1)), (by first | rfl | (simp; done) | (simp [*]; done) | (simp [wrap64]; done)), (by first | rfl | (simp; done) | (simp [*]; done) | (simp [wrap64]; done)), (by first | rfl | (simp; done) | (simp [*]; done) | (simp [wrap64]; done)), H', ⟨by have := HJ5.out; have := HJ21.out; have := HK3.out; omega⟩, ⟨by (with_reducible repeat (first | apply Kd.R_alloc | apply Kd.R_drewN | apply Kd.R_drew)); exact HO_5.out⟩, ⟨by repeat (first | (with_reducible first | exact HB.out | apply below_alloc | apply pw_below_drewN | apply below_drew1) | exact HB.out)⟩⟩
                      · rw [if_neg c30] at H
                        exact absurd H (by simp)
                    · rw [if_neg c29] at H
                      have c29b0 : decide (x9_3 < (t579.length : Int)) = false := decide_eq_false c29
                      clear c29
                      by_cases c35 : x7_3 = 65536
                      · rw [if_pos c35] at H
                        have c35b0 : (x7_3 == 65536) = true := beq_iff_eq.mpr c35
                        have c35b1 : (x7_3 != 65536) = false := bne_eq_false_iff_eq.mpr c35
                        clear c35
                        by_cases c36 : (t579.length : Int) = t577
                        · rw [if_pos c36] at H
                          have c36b0 : ((t579.length : Int) == t577) = true := beq_iff_eq.mpr c36
                          have c36b1 : ((t579.length : Int) != t577) = false := bne_eq_false_iff_eq.mpr c36
                          clear c36
                          replace H := Option.bind_eq_some_iff.mp H
                          obtain ⟨t588, A370, H⟩ := H
                          replace H : (if t588 = true then (if t578 ≥ x8_3 then (if 0 ≤ (wrap64 (t582 - 1)) then (if (wrap64 (t582 - 1)) < (t579.length : Int) then (some (decide (t578 < (wrap64 (x8_3 + (rd t579 (wrap64 (t582 - 1)))))))) else (none)) else (none)) else (some false)) else (some false)) = some true := H
                          have A37 := Aside0.mk A370
                          clear A370
                          by_cases c38 : t588 = true
                          · subst c38
                            have H1 : (if t578 ≥ x8_3 then (if 0 ≤ (wrap64 (t582 - 1)) then (if (wrap64 (t582 - 1)) < (t579.length : Int) then (some (decide (t578 < (wrap64 (x8_3 + (rd t579 (wrap64 (t582 - 1)))))))) else (none)) else (none)) else (some false)) = some true := by rw [if_pos rfl] at H; exact H
                            clear H
                            have H := H1
                            clear H1
                            by_cases c39 : t578 ≥ x8_3
                            · rw [if_pos c39] at H
                              have c39b0 : decide (x8_3 ≤ t578) = true := decide_eq_true c39
                              clear c39
                              obtain ⟨ji40, hji40⟩ : ∃ j_ : Int, (wrap64 (t582 - 1)) = j_ := ⟨_, rfl⟩
                              replace H : (if 0 ≤ (ji40) then (if (ji40) < (t579.length : Int) then (some (decide (t578 < (wrap64 (x8_3 + (rd t579 (ji40))))))) else (none)) else (none)) = some true := by first | (rw [hji40] at H; exact H) | (simp only [hji40] at H ⊢; exact H)
                              (try rw [hji40] at A37)
                              have hji40w : (IntKind.i64.wrap (t582 - 1)) = ji40 := (i64_w _).trans hji40
                              by_cases c41 : 0 ≤ (ji40)
                              · rw [if_pos c41] at H
                                have c41b0 : decide (0 ≤ (ji40)) = true := decide_eq_true c41
                                clear c41
                                by_cases c42 : (ji40) < (t579.length : Int)
                                · rw [if_pos c42] at H
                                  have c42b0 : decide ((ji40) < (t579.length : Int)) = true := decide_eq_true c42
                                  clear c42
                                  have hres_ := Option.some.inj H
                                  clear H
                                  obtain ⟨Ao43, co43, eo43⟩ := Kd.R_slice HO_5.out
                                  subst eo43
                                  go_wp2_with (first | (go_at_call 24; (with_reducible refine (laws_whIn.calls t582 1 t577 true _ A37.out).mono ?_); rintro e w' ⟨rfl, ⟨nd, rfl⟩⟩; have p589 : 0 ≤ ((ji40) : Int) := of_decide_eq_true (by first | (with_reducible assumption) | assumption); have q589 : (ji40) < (t579.length : Int) := of_decide_eq_true (by first | (with_reducible assumption) | assumption); obtain ⟨ad589, e589, hx589_0⟩ := Kd.at_int (Kd.R_reads' HO_5.out).2.2 (ji40) p589 q589; cases e589; replace p589 := eq_true p589; replace q589 := eq_true q589))
                                  go_ret
                                  exact ⟨by first | rfl | (simp [errW_none, errW_some] <;> rfl) | (simp only [← hji40]; first | rfl | (simp [errW_none, errW_some] <;> rfl)) | (simp [*, errW_none, errW_some] <;> rfl), by repeat (first | (with_reducible first | exact HB.out | apply below_alloc | apply pw_below_drewN | apply below_drew1) | exact HB.out)⟩
                                · rw [if_neg c42] at H
                                  exact absurd H (by simp)
                              · rw [if_neg c41] at H
                                exact absurd H (by simp)
                            · rw [if_neg c39] at H
                              have c39b0 : decide (x8_3 ≤ t578) = false := decide_eq_false c39
                              clear c39
                              exact absurd H (by simp)
                          · replace c38 := Bool.eq_false_iff.mpr c38
                            subst c38
                            have H1 : (some false) = some true := by rw [if_neg (show ¬ (false = true) by decide)] at H; exact H
                            clear H
                            have H := H1
                            clear H1
                            exact absurd H (by simp)
                        · rw [if_neg c36] at H
                          have c36b0 : ((t579.length : Int) == t577) = false := beq_eq_false_iff_ne.mpr c36
                          have c36b1 : ((t579.length : Int) != t577) = true := bne_iff_ne.mpr c36
                          exact absurd H (by simp)
                      · rw [if_neg c35] at H
                        have c35b0 : (x7_3 == 65536) = false := beq_eq_false_iff_ne.mpr c35
                        have c35b1 : (x7_3 != 65536) = true := bne_iff_ne.mpr c35
                        exact absurd H (by simp)

/-- THE ONE PURE STATEMENT of laws_FnDegrees: yours. -/
def laws_FnDegrees.Pure : Prop := ∀ (l0 : List Int), l0.length ≤ maxLen → l0.length * 1 ≤ 140737488351232 → (∀ x ∈ l0, (Lit.int .u8 x).wf = true) → ∃ k, laws_FnDegrees.f k l0 = some true
theorem laws_FnDegrees.walk (P : laws_FnDegrees.Pure) (a0 : Option Addr) (len0 cap0 : Nat) (z0 : List Int) (w : World) (w0 : (a0 = none ∧ len0 = 0 ∧ cap0 = 0 ∧ z0 = []) ∨ ∃ x, a0 = some x ∧ len0 ≤ cap0 ∧ cap0 ≤ maxLen ∧ z0.length = cap0 ∧ (∀ i, i < z0.length → w.cell? (x.add i) = some (.int .u8 (z0.getD i 0))) ∧ ∀ n ∈ z0, (Lit.int .u8 n).wf = true) (y0 : len0 * 1 ≤ 140737488351232) :
    Calls Try.prog 13 #[.slice a0 len0 cap0] w fun e w' => e = .returned (.bool true) ∧ Below w.heap.size w w' := by
  obtain ⟨l0, rfl, hr0, hm0, hw0, hc0⟩ := ReadsInt.ofRowC w0
  obtain ⟨k, h⟩ := P l0 hm0 y0 hw0
  refine (laws_FnDegrees.calls k _ _ l0 w (Kd.C_of_reads (d := (0 : Int)) (h1 := fun _ => rfl) hr0) hc0 h).mono ?_
  rintro e w' ⟨rfl, hd⟩
  exact ⟨rfl, hd⟩

end Go.Proofs.Ytmmpkkjaeakplaa.X
