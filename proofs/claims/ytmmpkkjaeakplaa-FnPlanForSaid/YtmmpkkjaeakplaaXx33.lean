/- Printed for this claim by the session's program (the kit's printer, several laws in one place): the functions that the law reaches, each as a plain Lean function, and the proof that the Go code comes to its answers. Conditions: none beside those that each theorem states. -/
import Derived.Test.YtmmpkkjaeakplaaXx0
import Derived.Test.YtmmpkkjaeakplaaXx11
import Derived.Test.YtmmpkkjaeakplaaXx18
import Derived.Test.YtmmpkkjaeakplaaXx26
import Derived.Test.YtmmpkkjaeakplaaXx28
import Derived.Test.YtmmpkkjaeakplaaXx31
namespace Go.Proofs.Ytmmpkkjaeakplaa.X
open Go.RowKit Go.Proofs.YtmmpkkjaeakplaaW.PrintWords Go.Proofs.YtmmpkkjaeakplaaW.PrintLast Go.Proofs.YtmmpkkjaeakplaaW.PrintMore
attribute [local go_sem] max2_int min2_int max_two min_two max_three min_three max_four min_four   -- for this text's walks alone
set_option linter.unusedVariables false
set_option linter.unusedSimpArgs false

/-! ### laws_FnPlanFor: function 12 -/
def laws_FnPlanFor.f (k : Nat) (l0 : List Int) : Option (Bool) := if (l0.length : Int) > 1048576 then (some true) else ((spec_DrawPlanFor.f k l0).bind fun t491 => ((impl_PlanFor.f k t491).bind fun bt492 => ((spec_PlanFor.f k t491).bind fun bt501 => ((laws_whPlan.f k bt492.1 bt492.2.1 bt492.2.2.1 bt492.2.2.2 bt501.1 bt501.2.1 bt501.2.2.1 bt501.2.2.2).bind fun t509 => (if t509 = true then ((laws_whIn.f t491 1 300).bind fun t510 => (if t510 = true then ((impl_PlanCount.f k bt492.1 bt492.2.1 bt492.2.2.1 bt492.2.2.2).bind fun t511 => ((impl_PlanOk.f k bt492.1 bt492.2.1 bt492.2.2.1 bt492.2.2.2).bind fun t512 => (if t512 = true then (if bt492.1 = t491 then (if (wrap64 (t511 * bt492.2.1)) ≥ t491 then (some (decide ((wrap64 ((wrap64 (t511 - 1)) * bt492.2.1)) < t491))) else (some false)) else (some false)) else (some false)))) else (some (bt492.1 == 0)))) else (some false))))))
theorem laws_FnPlanFor.mono : ∀ a0 k, LeO (laws_FnPlanFor.f k a0) (laws_FnPlanFor.f (k + 1) a0) := by
  intro a0 k
  unfold laws_FnPlanFor.f
  repeat' first
      | (with_reducible exact impl_PlanCount.mono _ _ _ _ _)
      | (with_reducible exact impl_PlanFor.mono _ _)
      | (with_reducible exact impl_PlanOk.mono _ _ _ _ _)
      | (with_reducible exact laws_whPlan.mono _ _ _ _ _ _ _ _ _)
      | (with_reducible exact spec_DrawPlanFor.mono _ _)
      | (with_reducible exact spec_PlanFor.mono _ _)
      | (with_reducible exact LeO.refl _)
      | (with_reducible exact LeO.none _)
      | (with_reducible refine LeO.ite ?_ ?_)
      | (with_reducible refine LeO.bind ?_ (fun _ => ?_))
      | exact impl_PlanCount.mono _ _ _ _ _
      | exact impl_PlanFor.mono _ _
      | exact impl_PlanOk.mono _ _ _ _ _
      | exact laws_whPlan.mono _ _ _ _ _ _ _ _ _
      | exact spec_DrawPlanFor.mono _ _
      | exact spec_PlanFor.mono _ _
      | exact LeO.none _
      | refine LeO.ite ?_ ?_
      | refine LeO.bind ?_ (fun _ => ?_)
set_option maxHeartbeats 8000000 in
set_option maxRecDepth 100000 in
theorem laws_FnPlanFor.calls (k : Nat) (A0 : Option Addr) (c0 : Nat) (l0 : List Int) (w : World) (hr0 : Kd.C (Kd.int .u8) w A0 l0.length l0) (hc0 : l0.length ≤ c0) (h : laws_FnPlanFor.f k l0 = some true) :
    Calls Try.prog 12 #[.slice A0 l0.length c0] w fun e w' => e = .returned (.bool true) ∧ Below w.heap.size w w' := by
  have hu40 := Try.underlying40
  have HR0 := Aside0.mk hr0
  have HC0 := Aside0.mk hc0
  clear hr0 hc0
  have HB := Aside0.mk (Below.refl w.heap.size w)
  have H : (if (l0.length : Int) > 1048576 then (some true) else ((spec_DrawPlanFor.f k l0).bind fun t491 => ((impl_PlanFor.f k t491).bind fun bt492 => ((spec_PlanFor.f k t491).bind fun bt501 => ((laws_whPlan.f k bt492.1 bt492.2.1 bt492.2.2.1 bt492.2.2.2 bt501.1 bt501.2.1 bt501.2.2.1 bt501.2.2.2).bind fun t509 => (if t509 = true then ((laws_whIn.f t491 1 300).bind fun t510 => (if t510 = true then ((impl_PlanCount.f k bt492.1 bt492.2.1 bt492.2.2.1 bt492.2.2.2).bind fun t511 => ((impl_PlanOk.f k bt492.1 bt492.2.1 bt492.2.2.1 bt492.2.2.2).bind fun t512 => (if t512 = true then (if bt492.1 = t491 then (if (wrap64 (t511 * bt492.2.1)) ≥ t491 then (some (decide ((wrap64 ((wrap64 (t511 - 1)) * bt492.2.1)) < t491))) else (some false)) else (some false)) else (some false)))) else (some (bt492.1 == 0)))) else (some false))))))) = some true := h
  clear h
  by_cases c2 : (l0.length : Int) > 1048576
  · rw [if_pos c2] at H
    have c2b0 : decide (1048576 < (l0.length : Int)) = true := decide_eq_true c2
    have c2b1 : decide (1048576 < l0.length) = true := decide_eq_true (by omega)
    clear c2
    clear H
    go_enter Try.func12, Try.ntmps12
    go_wp2
    go_ret
    exact ⟨by first | rfl | (simp [errW_none, errW_some] <;> rfl) | (simp [*, errW_none, errW_some] <;> rfl), by repeat (first | (with_reducible first | exact HB.out | apply below_alloc | apply pw_below_drewN | apply below_drew1) | exact HB.out)⟩
  · rw [if_neg c2] at H
    have c2b0 : decide (1048576 < (l0.length : Int)) = false := decide_eq_false c2
    have c2b1 : decide (1048576 < l0.length) = false := decide_eq_false (by omega)
    clear c2
    replace H := Option.bind_eq_some_iff.mp H
    obtain ⟨t491, A30, H⟩ := H
    replace H : ((impl_PlanFor.f k t491).bind fun bt492 => ((spec_PlanFor.f k t491).bind fun bt501 => ((laws_whPlan.f k bt492.1 bt492.2.1 bt492.2.2.1 bt492.2.2.2 bt501.1 bt501.2.1 bt501.2.2.1 bt501.2.2.2).bind fun t509 => (if t509 = true then ((laws_whIn.f t491 1 300).bind fun t510 => (if t510 = true then ((impl_PlanCount.f k bt492.1 bt492.2.1 bt492.2.2.1 bt492.2.2.2).bind fun t511 => ((impl_PlanOk.f k bt492.1 bt492.2.1 bt492.2.2.1 bt492.2.2.2).bind fun t512 => (if t512 = true then (if bt492.1 = t491 then (if (wrap64 (t511 * bt492.2.1)) ≥ t491 then (some (decide ((wrap64 ((wrap64 (t511 - 1)) * bt492.2.1)) < t491))) else (some false)) else (some false)) else (some false)))) else (some (bt492.1 == 0)))) else (some false))))) = some true := H
    have A3 := Aside0.mk A30
    clear A30
    replace H := Option.bind_eq_some_iff.mp H
    obtain ⟨⟨t492, t493, t494, t497⟩, A40, H⟩ := H
    replace H : ((spec_PlanFor.f k t491).bind fun bt501 => ((laws_whPlan.f k t492 t493 t494 t497 bt501.1 bt501.2.1 bt501.2.2.1 bt501.2.2.2).bind fun t509 => (if t509 = true then ((laws_whIn.f t491 1 300).bind fun t510 => (if t510 = true then ((impl_PlanCount.f k t492 t493 t494 t497).bind fun t511 => ((impl_PlanOk.f k t492 t493 t494 t497).bind fun t512 => (if t512 = true then (if t492 = t491 then (if (wrap64 (t511 * t493)) ≥ t491 then (some (decide ((wrap64 ((wrap64 (t511 - 1)) * t493)) < t491))) else (some false)) else (some false)) else (some false)))) else (some (t492 == 0)))) else (some false)))) = some true := H
    have A4 := Aside0.mk A40
    clear A40
    replace H := Option.bind_eq_some_iff.mp H
    obtain ⟨⟨t501, t502, t503, t506⟩, A50, H⟩ := H
    replace H : ((laws_whPlan.f k t492 t493 t494 t497 t501 t502 t503 t506).bind fun t509 => (if t509 = true then ((laws_whIn.f t491 1 300).bind fun t510 => (if t510 = true then ((impl_PlanCount.f k t492 t493 t494 t497).bind fun t511 => ((impl_PlanOk.f k t492 t493 t494 t497).bind fun t512 => (if t512 = true then (if t492 = t491 then (if (wrap64 (t511 * t493)) ≥ t491 then (some (decide ((wrap64 ((wrap64 (t511 - 1)) * t493)) < t491))) else (some false)) else (some false)) else (some false)))) else (some (t492 == 0)))) else (some false))) = some true := H
    have A5 := Aside0.mk A50
    clear A50
    replace H := Option.bind_eq_some_iff.mp H
    obtain ⟨t509, A60, H⟩ := H
    replace H : (if t509 = true then ((laws_whIn.f t491 1 300).bind fun t510 => (if t510 = true then ((impl_PlanCount.f k t492 t493 t494 t497).bind fun t511 => ((impl_PlanOk.f k t492 t493 t494 t497).bind fun t512 => (if t512 = true then (if t492 = t491 then (if (wrap64 (t511 * t493)) ≥ t491 then (some (decide ((wrap64 ((wrap64 (t511 - 1)) * t493)) < t491))) else (some false)) else (some false)) else (some false)))) else (some (t492 == 0)))) else (some false)) = some true := H
    have A6 := Aside0.mk A60
    clear A60
    by_cases c7 : t509 = true
    · subst c7
      have H1 : ((laws_whIn.f t491 1 300).bind fun t510 => (if t510 = true then ((impl_PlanCount.f k t492 t493 t494 t497).bind fun t511 => ((impl_PlanOk.f k t492 t493 t494 t497).bind fun t512 => (if t512 = true then (if t492 = t491 then (if (wrap64 (t511 * t493)) ≥ t491 then (some (decide ((wrap64 ((wrap64 (t511 - 1)) * t493)) < t491))) else (some false)) else (some false)) else (some false)))) else (some (t492 == 0)))) = some true := by rw [if_pos rfl] at H; exact H
      clear H
      have H := H1
      clear H1
      replace H := Option.bind_eq_some_iff.mp H
      obtain ⟨t510, A80, H⟩ := H
      replace H : (if t510 = true then ((impl_PlanCount.f k t492 t493 t494 t497).bind fun t511 => ((impl_PlanOk.f k t492 t493 t494 t497).bind fun t512 => (if t512 = true then (if t492 = t491 then (if (wrap64 (t511 * t493)) ≥ t491 then (some (decide ((wrap64 ((wrap64 (t511 - 1)) * t493)) < t491))) else (some false)) else (some false)) else (some false)))) else (some (t492 == 0))) = some true := H
      have A8 := Aside0.mk A80
      clear A80
      by_cases c9 : t510 = true
      · subst c9
        have H1 : ((impl_PlanCount.f k t492 t493 t494 t497).bind fun t511 => ((impl_PlanOk.f k t492 t493 t494 t497).bind fun t512 => (if t512 = true then (if t492 = t491 then (if (wrap64 (t511 * t493)) ≥ t491 then (some (decide ((wrap64 ((wrap64 (t511 - 1)) * t493)) < t491))) else (some false)) else (some false)) else (some false)))) = some true := by rw [if_pos rfl] at H; exact H
        clear H
        have H := H1
        clear H1
        replace H := Option.bind_eq_some_iff.mp H
        obtain ⟨t511, A100, H⟩ := H
        replace H : ((impl_PlanOk.f k t492 t493 t494 t497).bind fun t512 => (if t512 = true then (if t492 = t491 then (if (wrap64 (t511 * t493)) ≥ t491 then (some (decide ((wrap64 ((wrap64 (t511 - 1)) * t493)) < t491))) else (some false)) else (some false)) else (some false))) = some true := H
        have A10 := Aside0.mk A100
        clear A100
        replace H := Option.bind_eq_some_iff.mp H
        obtain ⟨t512, A110, H⟩ := H
        replace H : (if t512 = true then (if t492 = t491 then (if (wrap64 (t511 * t493)) ≥ t491 then (some (decide ((wrap64 ((wrap64 (t511 - 1)) * t493)) < t491))) else (some false)) else (some false)) else (some false)) = some true := H
        have A11 := Aside0.mk A110
        clear A110
        by_cases c12 : t512 = true
        · subst c12
          have H1 : (if t492 = t491 then (if (wrap64 (t511 * t493)) ≥ t491 then (some (decide ((wrap64 ((wrap64 (t511 - 1)) * t493)) < t491))) else (some false)) else (some false)) = some true := by rw [if_pos rfl] at H; exact H
          clear H
          have H := H1
          clear H1
          by_cases c13 : t492 = t491
          · rw [if_pos c13] at H
            have c13b0 : (t492 == t491) = true := beq_iff_eq.mpr c13
            have c13b1 : (t492 != t491) = false := bne_eq_false_iff_eq.mpr c13
            clear c13
            by_cases c14 : (wrap64 (t511 * t493)) ≥ t491
            · rw [if_pos c14] at H
              have c14b0 : decide (t491 ≤ (wrap64 (t511 * t493))) = true := decide_eq_true c14
              clear c14
              have hres_ := Option.some.inj H
              clear H
              go_enter Try.func12, Try.ntmps12
              try go_wp2_with (first | ((with_reducible refine gate_callee (f := 40) rfl ?_); refine goesL_ (some 10) rfl rfl Try.func40 (by kernel_rfl) rfl #[.slice A0 l0.length c0] rfl (by (try simp only [List.map_toArray, List.map_cons, List.map_nil]); first | done | rfl | (simp only [List.length_drop, List.length_take]; rfl)) ?_; (with_reducible refine (spec_DrawPlanFor.calls k _ _ l0 t491 _ ?side1 ?side2 A3.out).mono ?_); (case side1 => repeat (first | exact HR0.out | (with_reducible refine Kd.C_alloc ?_ _) | (with_reducible refine Kd.C_drewN ?_ _) | (with_reducible refine Kd.C_drew ?_))); (case side2 => exact HC0.out); rintro e w15 ⟨rfl, hb⟩; refine ⟨_, rfl, ?_⟩; have n0_ := Aside0.mk (below_step (by repeat (first | (with_reducible first | exact HB.out | apply below_alloc | apply pw_below_drewN | apply below_drew1) | exact HB.out)) hb); clear HB; have HB := n0_; clear n0_; (try clear hb); (try clear hb2); (try clear hk); (try clear hi)) | ((with_reducible refine gate_callee (f := 37) rfl ?_); refine goesL_ (some 12) rfl rfl Try.func37 (by kernel_rfl) rfl #[.int .i64 t491] rfl (by (try simp only [List.map_toArray, List.map_cons, List.map_nil]); first | done | rfl | (simp only [List.length_drop, List.length_take]; rfl)) ?_; (with_reducible refine (impl_PlanFor.calls k t491 t492 t493 t494 t497 _ A4.out).mono ?_); rintro e w16 ⟨v495, v498, rfl, ho0, ho1, hb⟩; refine ⟨_, rfl, ?_⟩; have n0_ := Aside0.mk (Kd.R_lower ho0 (below_size (by repeat (first | (with_reducible first | exact HB.out | apply below_alloc | apply pw_below_drewN | apply below_drew1) | exact HB.out)))); have n1_ := Aside0.mk (Kd.R_lower ho1 (below_size (by repeat (first | (with_reducible first | exact HB.out | apply below_alloc | apply pw_below_drewN | apply below_drew1) | exact HB.out)))); have n2_ := Aside0.mk (below_step (by repeat (first | (with_reducible first | exact HB.out | apply below_alloc | apply pw_below_drewN | apply below_drew1) | exact HB.out)) hb); clear HB; have HO496 := n0_; have HO499 := n1_; have HB := n2_; clear n0_ n1_ n2_; (try clear hb); (try clear hb2); (try clear hk); (try clear hi); (try clear ho0); (try clear ho1)) | ((with_reducible refine gate_dst (N := 4) rfl ?_); refine box_event ?hg (N := 4) ?hd (cs := #[.int .i64 0, .int .i64 0, .slice none 0 0, .slice none 0 0]) (t := 40) ?hr ?_; (case hd => rfl); (case hg => rfl); (case hr => first | (go_simp; done) | (go_simp; rfl)); intro gb500 hg w17 hbox hb; have n0_ := Aside0.mk (Kd.R_below (by (with_reducible repeat (first | apply Kd.R_alloc | apply Kd.R_drewN | apply Kd.R_drew)); exact HO496.out) hb); have n1_ := Aside0.mk (Kd.R_below (by (with_reducible repeat (first | apply Kd.R_alloc | apply Kd.R_drewN | apply Kd.R_drew)); exact HO499.out) hb); have n2_ := Aside0.mk (below_step (by repeat (first | (with_reducible first | exact HB.out | apply below_alloc | apply pw_below_drewN | apply below_drew1) | exact HB.out)) hb); have n3_ := Aside0.mk (hbox); have n4_ := Aside0.mk ((by rw [hg]; exact (below_size (by repeat (first | (with_reducible first | exact HB.out | apply below_alloc | apply pw_below_drewN | apply below_drew1) | exact HB.out))) : w.heap.size ≤ gb500)); have n5_ := Aside0.mk ((by rw [hg]; exact (below_size (by repeat (first | (with_reducible first | exact HB.out | apply below_alloc | apply pw_below_drewN | apply below_drew1) | exact HB.out))) : w.heap.size ≤ gb500)); clear HO496; clear HO499; clear HB; have HO496 := n0_; have HO499 := n1_; have HB := n2_; have BK500 := n3_; have GW500 := n4_; have GE500 := n5_; clear n0_ n1_ n2_ n3_ n4_ n5_; clear hb hbox hg; have hcz18_0 : w17.cell? ⟨gb500, 0, none⟩ = some (.int .i64 0) := (blk_cell BK500.out 0).trans rfl; have hcz18_1 : w17.cell? ⟨gb500, 1, none⟩ = some (.int .i64 0) := (blk_cell BK500.out 1).trans rfl; have hcz18_2 : w17.cell? ⟨gb500, 2, none⟩ = some (.slice none 0 0) := (blk_cell BK500.out 2).trans rfl; have hcz18_3 : w17.cell? ⟨gb500, 3, none⟩ = some (.slice none 0 0) := (blk_cell BK500.out 3).trans rfl; have hfz18_0 := blk_frozen BK500.out 0; have hfz18_1 := blk_frozen BK500.out 1; have hfz18_2 := blk_frozen BK500.out 2; have hfz18_3 := blk_frozen BK500.out 3; obtain ⟨Ao19, co19, eo19⟩ := Kd.R_slice HO496.out; subst eo19; obtain ⟨Ao20, co20, eo20⟩ := Kd.R_slice HO499.out; subst eo20))
              have n0_ : Aside0 (Kd.R (Kd.int .i64) 3 ((((w17.setCell ⟨gb500, 0, none⟩ (.int .i64 t492)).setCell ⟨gb500, 1, none⟩ (.int .i64 t493)).setCell ⟨gb500, 2, none⟩ (.slice Ao19 t494.length co19)).setCell ⟨gb500, 3, none⟩ (.slice Ao20 t497.length co20)) w.heap.size (fun k_ => some k_ ≠ (.slice Ao20 t497.length co20 : Value).ownBlock) (.slice Ao19 t494.length co19) t494) := ⟨by (with_reducible repeat (first | apply Kd.R_alloc | apply Kd.R_drewN | apply Kd.R_drew)); exact Kd.R_mono (Kd.R_far (p := ⟨gb500, 3, none⟩) (Kd.R_far (p := ⟨gb500, 2, none⟩) (Kd.R_far (p := ⟨gb500, 1, none⟩) (Kd.R_far (p := ⟨gb500, 0, none⟩) (Kd.R_types HO496.out BK500.out (by decide)) (fun _ hk => hk.2) (.int .i64 t492)) (fun _ hk => hk.2) (.int .i64 t493)) (fun _ hk => hk.2) (.slice Ao19 t494.length co19)) (fun _ hk => hk.2) (.slice Ao20 t497.length co20)) (fun _ hk => hk.1)⟩
              have n1_ : Aside0 (Kd.R (Kd.int .i64) 3 ((((w17.setCell ⟨gb500, 0, none⟩ (.int .i64 t492)).setCell ⟨gb500, 1, none⟩ (.int .i64 t493)).setCell ⟨gb500, 2, none⟩ (.slice Ao19 t494.length co19)).setCell ⟨gb500, 3, none⟩ (.slice Ao20 t497.length co20)) w.heap.size (fun k_ => some k_ ≠ (.slice Ao19 t494.length co19 : Value).ownBlock) (.slice Ao20 t497.length co20) t497) := ⟨by (with_reducible repeat (first | apply Kd.R_alloc | apply Kd.R_drewN | apply Kd.R_drew)); exact Kd.R_mono (Kd.R_far (p := ⟨gb500, 3, none⟩) (Kd.R_far (p := ⟨gb500, 2, none⟩) (Kd.R_far (p := ⟨gb500, 1, none⟩) (Kd.R_far (p := ⟨gb500, 0, none⟩) (Kd.R_types HO499.out BK500.out (by decide)) (fun _ hk => hk.2) (.int .i64 t492)) (fun _ hk => hk.2) (.int .i64 t493)) (fun _ hk => hk.2) (.slice Ao19 t494.length co19)) (fun _ hk => hk.2) (.slice Ao20 t497.length co20)) (fun _ hk => hk.1)⟩
              have n2_ : Aside0 (((((w17.setCell ⟨gb500, 0, none⟩ (.int .i64 t492)).setCell ⟨gb500, 1, none⟩ (.int .i64 t493)).setCell ⟨gb500, 2, none⟩ (.slice Ao19 t494.length co19)).setCell ⟨gb500, 3, none⟩ (.slice Ao20 t497.length co20)).heap[gb500]? = some (.cells #[.int .i64 t492, .int .i64 t493, .slice Ao19 t494.length co19, .slice Ao20 t497.length co20] 40 (0, 0))) := ⟨by (with_reducible repeat (first | refine blk_drewN ?_ _ | refine blk_drew ?_ | refine blk_alloc ?_ _)); refine blk_put (cs := #[.int .i64 t492, .int .i64 t493, .slice Ao19 t494.length co19, .slice none 0 0]) ?_ 3 _ rfl; (with_reducible repeat (first | refine blk_drewN ?_ _ | refine blk_drew ?_ | refine blk_alloc ?_ _)); refine blk_put (cs := #[.int .i64 t492, .int .i64 t493, .slice none 0 0, .slice none 0 0]) ?_ 2 _ rfl; (with_reducible repeat (first | refine blk_drewN ?_ _ | refine blk_drew ?_ | refine blk_alloc ?_ _)); refine blk_put (cs := #[.int .i64 t492, .int .i64 0, .slice none 0 0, .slice none 0 0]) ?_ 1 _ rfl; (with_reducible repeat (first | refine blk_drewN ?_ _ | refine blk_drew ?_ | refine blk_alloc ?_ _)); refine blk_put (cs := #[.int .i64 0, .int .i64 0, .slice none 0 0, .slice none 0 0]) ?_ 0 _ rfl; (with_reducible repeat (first | refine blk_drewN ?_ _ | refine blk_drew ?_ | refine blk_alloc ?_ _)); exact BK500.out⟩
              have n3_ : Aside0 (Below w.heap.size w ((((w17.setCell ⟨gb500, 0, none⟩ (.int .i64 t492)).setCell ⟨gb500, 1, none⟩ (.int .i64 t493)).setCell ⟨gb500, 2, none⟩ (.slice Ao19 t494.length co19)).setCell ⟨gb500, 3, none⟩ (.slice Ao20 t497.length co20))) := ⟨by repeat (first | (with_reducible first | exact HB.out | apply below_alloc | apply pw_below_drewN | apply below_drew1 | refine below_set ?_ GE500.out) | exact HB.out)⟩
              (try clear HO496)
              (try clear HO499)
              (try clear BK500)
              (try clear HB)
              generalize ((((w17.setCell ⟨gb500, 0, none⟩ (.int .i64 t492)).setCell ⟨gb500, 1, none⟩ (.int .i64 t493)).setCell ⟨gb500, 2, none⟩ (.slice Ao19 t494.length co19)).setCell ⟨gb500, 3, none⟩ (.slice Ao20 t497.length co20)) = w21 at n0_ n1_ n2_ n3_ ⊢
              have HO496 := n0_
              have HO499 := n1_
              have BK500 := n2_
              have HB := n3_
              clear n0_ n1_ n2_ n3_
              have n0_ := Aside0.mk (Kd.R_drew HO496.out)
              have n1_ := Aside0.mk (Kd.R_drew HO499.out)
              have n2_ := Aside0.mk (blk_drew BK500.out)
              have n3_ := Aside0.mk (below_drew1 HB.out)
              clear HO496
              clear HO499
              clear BK500
              clear HB
              have HO496 := n0_
              have HO499 := n1_
              have BK500 := n2_
              have HB := n3_
              clear n0_ n1_ n2_ n3_
              refine start_ (n := 5) (S := fun w' => w'.cell? ⟨gb500, 0, none⟩ = some (.int .i64 t492) ∧ w'.cell? ⟨gb500, 1, none⟩ = some (.int .i64 t493) ∧ w'.cell? ⟨gb500, 2, none⟩ = some (.slice Ao19 t494.length co19) ∧ w'.cell? ⟨gb500, 3, none⟩ = some (.slice Ao20 t497.length co20)) (ds := []) #[false, false, false, false, false] (by kernel_rfl) rfl rfl ⟨(blk_cell BK500.out 0).trans rfl, (blk_cell BK500.out 1).trans rfl, (blk_cell BK500.out 2).trans rfl, (blk_cell BK500.out 3).trans rfl⟩ (fun hHeld => ?_)
              generalize w21.drew = w22 at HO496 HO499 BK500 HB hHeld ⊢
              refine pure_ (i := 1) (N := some 14) (v := ?_) (a' := ?_) #[false, true, false, false, false] rfl rfl (by kernel_rfl) (fun _ _ _ h => h) (Or.inl ⟨by rfl, ?_⟩) ?_ ?_
              rotate_left
              · intro w'
                go_simp
                with_reducible rfl
              rotate_left
              · simp only [Act.put, List.setIfInBounds_toArray, List.set_cons_zero, List.set_cons_succ, i64_w, i32_w]
                rfl
              refine take_ (i := 0) (N := some 13) (v := ?_) (a' := ?_) #[true, true, false, false, false] rfl rfl (by kernel_rfl) (fun _ _ _ h => h) (Or.inl ⟨by rfl, ?_⟩) hHeld ?_ ?_
              rotate_left
              · rintro w' ⟨s0, s1, s2, s3⟩
                go_simp
                with_reducible rfl
              rotate_left
              · simp only [Act.put, List.setIfInBounds_toArray, List.set_cons_zero, List.set_cons_succ, i64_w, i32_w]
                rfl
              refine one_ (i := 2) (N := some 15) #[true, true, true, false, false] rfl rfl (by kernel_rfl) (by decide) (fun K hK => ?_)
              refine goes_ Try.func36 (by kernel_rfl) rfl #[.int .i64 t491] (by rfl) rfl rfl (by (try simp only [List.map_toArray, List.map_cons, List.map_nil]); first | done | rfl | (simp only [List.length_drop, List.length_take]; rfl)) ?_
              with_reducible refine (spec_PlanFor.calls k t491 t501 t502 t503 t506 _ A5.out).mono ?_
              rintro e w23 ⟨v504, v507, rfl, ho0, ho1, hb⟩
              refine ⟨_, rfl, ?_⟩
              have n0_ := Aside0.mk (Kd.R_mono (Kd.R_told (Kd.R_told (Kd.R_old (by (with_reducible repeat (first | apply Kd.R_alloc | apply Kd.R_drewN | apply Kd.R_drew)); exact HO496.out) hb) (Kd.R_base ho0)) (Kd.R_base ho1)) (fun _ h_ => h_.1))
              have n1_ := Aside0.mk (Kd.R_mono (Kd.R_told (Kd.R_told (Kd.R_old (by (with_reducible repeat (first | apply Kd.R_alloc | apply Kd.R_drewN | apply Kd.R_drew)); exact HO499.out) hb) (Kd.R_base ho0)) (Kd.R_base ho1)) (fun _ h_ => h_.1))
              have n2_ := Aside0.mk (Kd.R_lower (Kd.R_new' (Kd.R_new' ho0 (Kd.R_lt (by (with_reducible repeat (first | apply Kd.R_alloc | apply Kd.R_drewN | apply Kd.R_drew)); exact HO496.out))) (Kd.R_lt (by (with_reducible repeat (first | apply Kd.R_alloc | apply Kd.R_drewN | apply Kd.R_drew)); exact HO499.out))) (below_size (by repeat (first | (with_reducible first | exact HB.out | apply below_alloc | apply pw_below_drewN | apply below_drew1 | refine below_set ?_ GE500.out) | exact HB.out))))
              have n3_ := Aside0.mk (Kd.R_lower (Kd.R_new' (Kd.R_new' ho1 (Kd.R_lt (by (with_reducible repeat (first | apply Kd.R_alloc | apply Kd.R_drewN | apply Kd.R_drew)); exact HO496.out))) (Kd.R_lt (by (with_reducible repeat (first | apply Kd.R_alloc | apply Kd.R_drewN | apply Kd.R_drew)); exact HO499.out))) (below_size (by repeat (first | (with_reducible first | exact HB.out | apply below_alloc | apply pw_below_drewN | apply below_drew1 | refine below_set ?_ GE500.out) | exact HB.out))))
              have n4_ := Aside0.mk (blk_below (g := gb500) (o := .cells #[.int .i64 t492, .int .i64 t493, .slice Ao19 t494.length co19, .slice Ao20 t497.length co20] 40 (0, 0)) (by (with_reducible repeat (first | refine blk_drewN ?_ _ | refine blk_drew ?_ | refine blk_alloc ?_ _)); exact BK500.out) hb)
              have n5_ := Aside0.mk (below_step (by repeat (first | (with_reducible first | exact HB.out | apply below_alloc | apply pw_below_drewN | apply below_drew1 | refine below_set ?_ GE500.out) | exact HB.out)) hb)
              clear HO496
              clear HO499
              clear BK500
              clear HB
              have HO496 := n0_
              have HO499 := n1_
              have HO505 := n2_
              have HO508 := n3_
              have BK500 := n4_
              have HB := n5_
              clear n0_ n1_ n2_ n3_ n4_ n5_
              (try clear hb)
              (try clear hb2)
              (try clear hk)
              (try clear hi)
              (try clear ho0)
              (try clear ho1)
              obtain ⟨Ao24, co24, eo24⟩ := Kd.R_slice HO505.out
              (first | subst eo24 | (injection eo24 with f1_ f2_ f3_; have f4_ := f1_.symm; have f5_ := f3_.symm; clear f1_ f2_ f3_; subst f4_; subst f5_))
              obtain ⟨Ao25, co25, eo25⟩ := Kd.R_slice HO508.out
              (first | subst eo25 | (injection eo25 with f1_ f2_ f3_; have f4_ := f1_.symm; have f5_ := f3_.symm; clear f1_ f2_ f3_; subst f4_; subst f5_))
              refine hK.out _ _ ⟨(blk_cell BK500.out 0).trans rfl, (blk_cell BK500.out 1).trans rfl, (blk_cell BK500.out 2).trans rfl, (blk_cell BK500.out 3).trans rfl⟩ (fun hHeld => ?_)
              clear hK K
              refine norm_ (a' := ?_) ?_ ?_
              rotate_left
              · show Act.put _ (some 15) _ = _
                simp only [Act.put, List.setIfInBounds_toArray, List.set_cons_zero, List.set_cons_succ, i64_w, i32_w]
                rfl
              refine one_ (i := 3) (N := some 16) #[true, true, true, true, false] rfl rfl (by kernel_rfl) (by decide) (fun K hK => ?_)
              refine goes_ Try.func41 (by kernel_rfl) rfl #[.agg #[.int .i64 t492, .int .i64 t493, .slice Ao19 t494.length co19, .slice Ao20 t497.length co20], .agg #[.int .i64 t501, .int .i64 t502, .slice Ao24 t503.length co24, .slice Ao25 t506.length co25]] (by rfl) rfl rfl (by (try simp only [List.map_toArray, List.map_cons, List.map_nil]); first | done | rfl | (simp only [List.length_drop, List.length_take]; rfl)) ?_
              with_reducible refine (laws_whPlan.calls k t492 t493 _ _ t494 _ _ t497 t501 t502 _ _ t503 _ _ t506 true _ ?side1 ?side2 ?side3 ?side4 ?side5 ?side6 ?side7 ?side8 A6.out).mono ?_
              (case side1 => repeat (first | exact (Kd.R_reads' HO496.out).2.2 | (with_reducible refine Kd.C_alloc ?_ _) | (with_reducible refine Kd.C_drewN ?_ _) | (with_reducible refine Kd.C_drew ?_)))
              (case side2 => exact (Kd.R_reads' HO496.out).2.1)
              (case side3 => repeat (first | exact (Kd.R_reads' HO499.out).2.2 | (with_reducible refine Kd.C_alloc ?_ _) | (with_reducible refine Kd.C_drewN ?_ _) | (with_reducible refine Kd.C_drew ?_)))
              (case side4 => exact (Kd.R_reads' HO499.out).2.1)
              (case side5 => repeat (first | exact (Kd.R_reads' HO505.out).2.2 | (with_reducible refine Kd.C_alloc ?_ _) | (with_reducible refine Kd.C_drewN ?_ _) | (with_reducible refine Kd.C_drew ?_)))
              (case side6 => exact (Kd.R_reads' HO505.out).2.1)
              (case side7 => repeat (first | exact (Kd.R_reads' HO508.out).2.2 | (with_reducible refine Kd.C_alloc ?_ _) | (with_reducible refine Kd.C_drewN ?_ _) | (with_reducible refine Kd.C_drew ?_)))
              (case side8 => exact (Kd.R_reads' HO508.out).2.1)
              rintro e w26 ⟨rfl, hb⟩
              refine ⟨_, rfl, ?_⟩
              have n0_ := Aside0.mk (Kd.R_below (by (with_reducible repeat (first | apply Kd.R_alloc | apply Kd.R_drewN | apply Kd.R_drew)); exact HO496.out) hb)
              have n1_ := Aside0.mk (Kd.R_below (by (with_reducible repeat (first | apply Kd.R_alloc | apply Kd.R_drewN | apply Kd.R_drew)); exact HO499.out) hb)
              have n2_ := Aside0.mk (Kd.R_below (by (with_reducible repeat (first | apply Kd.R_alloc | apply Kd.R_drewN | apply Kd.R_drew)); exact HO505.out) hb)
              have n3_ := Aside0.mk (Kd.R_below (by (with_reducible repeat (first | apply Kd.R_alloc | apply Kd.R_drewN | apply Kd.R_drew)); exact HO508.out) hb)
              have n4_ := Aside0.mk (blk_below (g := gb500) (o := .cells #[.int .i64 t492, .int .i64 t493, .slice Ao19 t494.length co19, .slice Ao20 t497.length co20] 40 (0, 0)) (by (with_reducible repeat (first | refine blk_drewN ?_ _ | refine blk_drew ?_ | refine blk_alloc ?_ _)); exact BK500.out) hb)
              have n5_ := Aside0.mk (below_step (by repeat (first | (with_reducible first | exact HB.out | apply below_alloc | apply pw_below_drewN | apply below_drew1 | refine below_set ?_ GE500.out) | exact HB.out)) hb)
              clear HO496
              clear HO499
              clear HO505
              clear HO508
              clear BK500
              clear HB
              have HO496 := n0_
              have HO499 := n1_
              have HO505 := n2_
              have HO508 := n3_
              have BK500 := n4_
              have HB := n5_
              clear n0_ n1_ n2_ n3_ n4_ n5_
              (try clear hb)
              (try clear hb2)
              (try clear hk)
              (try clear hi)
              refine hK.out _ _ ⟨(blk_cell BK500.out 0).trans rfl, (blk_cell BK500.out 1).trans rfl, (blk_cell BK500.out 2).trans rfl, (blk_cell BK500.out 3).trans rfl⟩ (fun hHeld => ?_)
              clear hK K
              refine norm_ (a' := ?_) ?_ ?_
              rotate_left
              · show Act.put _ (some 16) _ = _
                simp only [Act.put, List.setIfInBounds_toArray, List.set_cons_zero, List.set_cons_succ, i64_w, i32_w]
                rfl
              refine pure_ (i := 4) (N := some 17) (v := ?_) (a' := ?_) #[true, true, true, true, true] rfl rfl (by kernel_rfl) (fun _ _ _ h => h) (Or.inl ⟨by rfl, ?_⟩) ?_ ?_
              rotate_left
              · intro w'
                go_simp
                with_reducible rfl
              rotate_left
              · simp only [Act.put, List.setIfInBounds_toArray, List.set_cons_zero, List.set_cons_succ, i64_w, i32_w]
                rfl
              refine done_ (by kernel_rfl) ?_
              try go_wp2_with (first | ((with_reducible refine gate_callee (f := 24) rfl ?_); refine goesL_ (some 19) rfl rfl Try.func24 (by kernel_rfl) rfl #[.int .i64 t491, .int .i64 1, .int .i64 300] rfl (by (try simp only [List.map_toArray, List.map_cons, List.map_nil]); first | done | rfl | (simp only [List.length_drop, List.length_take]; rfl)) ?_; (with_reducible refine (laws_whIn.calls t491 1 300 true _ A8.out).mono ?_); rintro e w' ⟨rfl, ⟨nd, rfl⟩⟩; refine ⟨_, rfl, ?_⟩; have hcz27_0 : w26.cell? ⟨gb500, 0, none⟩ = some (.int .i64 t492) := (blk_cell BK500.out 0).trans rfl; have hcz27_1 : w26.cell? ⟨gb500, 1, none⟩ = some (.int .i64 t493) := (blk_cell BK500.out 1).trans rfl; have hcz27_2 : w26.cell? ⟨gb500, 2, none⟩ = some (.slice Ao19 t494.length co19) := (blk_cell BK500.out 2).trans rfl; have hcz27_3 : w26.cell? ⟨gb500, 3, none⟩ = some (.slice Ao20 t497.length co20) := (blk_cell BK500.out 3).trans rfl; have hfz27_0 := blk_frozen BK500.out 0; have hfz27_1 := blk_frozen BK500.out 1; have hfz27_2 := blk_frozen BK500.out 2; have hfz27_3 := blk_frozen BK500.out 3) | ((with_reducible refine gate_callee (f := 35) rfl ?_); refine goesL_ (some 25) rfl rfl Try.func35 (by kernel_rfl) rfl #[.agg #[.int .i64 t492, .int .i64 t493, .slice Ao19 t494.length co19, .slice Ao20 t497.length co20]] rfl (by (try simp only [List.map_toArray, List.map_cons, List.map_nil]); first | done | rfl | (simp only [List.length_drop, List.length_take]; rfl)) ?_; (with_reducible refine (impl_PlanCount.calls k t492 t493 _ _ t494 _ _ t497 t511 _ ?side1 ?side2 ?side3 ?side4 A10.out).mono ?_); (case side1 => repeat (first | exact (Kd.R_reads' HO496.out).2.2 | (with_reducible refine Kd.C_alloc ?_ _) | (with_reducible refine Kd.C_drewN ?_ _) | (with_reducible refine Kd.C_drew ?_))); (case side2 => exact (Kd.R_reads' HO496.out).2.1); (case side3 => repeat (first | exact (Kd.R_reads' HO499.out).2.2 | (with_reducible refine Kd.C_alloc ?_ _) | (with_reducible refine Kd.C_drewN ?_ _) | (with_reducible refine Kd.C_drew ?_))); (case side4 => exact (Kd.R_reads' HO499.out).2.1); rintro e w28 ⟨rfl, hb⟩; refine ⟨_, rfl, ?_⟩; have n0_ := Aside0.mk (Kd.R_below (by (with_reducible repeat (first | apply Kd.R_alloc | apply Kd.R_drewN | apply Kd.R_drew)); exact HO496.out) hb); have n1_ := Aside0.mk (Kd.R_below (by (with_reducible repeat (first | apply Kd.R_alloc | apply Kd.R_drewN | apply Kd.R_drew)); exact HO499.out) hb); have n2_ := Aside0.mk (Kd.R_below (by (with_reducible repeat (first | apply Kd.R_alloc | apply Kd.R_drewN | apply Kd.R_drew)); exact HO505.out) hb); have n3_ := Aside0.mk (Kd.R_below (by (with_reducible repeat (first | apply Kd.R_alloc | apply Kd.R_drewN | apply Kd.R_drew)); exact HO508.out) hb); have n4_ := Aside0.mk (blk_below (g := gb500) (o := .cells #[.int .i64 t492, .int .i64 t493, .slice Ao19 t494.length co19, .slice Ao20 t497.length co20] 40 (0, 0)) (by (with_reducible repeat (first | refine blk_drewN ?_ _ | refine blk_drew ?_ | refine blk_alloc ?_ _)); exact BK500.out) hb); have n5_ := Aside0.mk (below_step (by repeat (first | (with_reducible first | exact HB.out | apply below_alloc | apply pw_below_drewN | apply below_drew1 | refine below_set ?_ GE500.out) | exact HB.out)) hb); clear HO496; clear HO499; clear HO505; clear HO508; clear BK500; clear HB; have HO496 := n0_; have HO499 := n1_; have HO505 := n2_; have HO508 := n3_; have BK500 := n4_; have HB := n5_; clear n0_ n1_ n2_ n3_ n4_ n5_; (try clear hb); (try clear hb2); (try clear hk); (try clear hi); have hcz29_0 : w28.cell? ⟨gb500, 0, none⟩ = some (.int .i64 t492) := (blk_cell BK500.out 0).trans rfl; have hcz29_1 : w28.cell? ⟨gb500, 1, none⟩ = some (.int .i64 t493) := (blk_cell BK500.out 1).trans rfl; have hcz29_2 : w28.cell? ⟨gb500, 2, none⟩ = some (.slice Ao19 t494.length co19) := (blk_cell BK500.out 2).trans rfl; have hcz29_3 : w28.cell? ⟨gb500, 3, none⟩ = some (.slice Ao20 t497.length co20) := (blk_cell BK500.out 3).trans rfl; have hfz29_0 := blk_frozen BK500.out 0; have hfz29_1 := blk_frozen BK500.out 1; have hfz29_2 := blk_frozen BK500.out 2; have hfz29_3 := blk_frozen BK500.out 3) | ((with_reducible refine gate_callee (f := 28) rfl ?_); refine goesL_ (some 27) rfl rfl Try.func28 (by kernel_rfl) rfl #[.agg #[.int .i64 t492, .int .i64 t493, .slice Ao19 t494.length co19, .slice Ao20 t497.length co20]] rfl (by (try simp only [List.map_toArray, List.map_cons, List.map_nil]); first | done | rfl | (simp only [List.length_drop, List.length_take]; rfl)) ?_; (with_reducible refine (impl_PlanOk.calls k t492 t493 _ _ t494 _ _ t497 true _ ?side1 ?side2 ?side3 ?side4 A11.out).mono ?_); (case side1 => repeat (first | exact (Kd.R_reads' HO496.out).2.2 | (with_reducible refine Kd.C_alloc ?_ _) | (with_reducible refine Kd.C_drewN ?_ _) | (with_reducible refine Kd.C_drew ?_))); (case side2 => exact (Kd.R_reads' HO496.out).2.1); (case side3 => repeat (first | exact (Kd.R_reads' HO499.out).2.2 | (with_reducible refine Kd.C_alloc ?_ _) | (with_reducible refine Kd.C_drewN ?_ _) | (with_reducible refine Kd.C_drew ?_))); (case side4 => exact (Kd.R_reads' HO499.out).2.1); rintro e w30 ⟨rfl, hb⟩; refine ⟨_, rfl, ?_⟩; have n0_ := Aside0.mk (Kd.R_below (by (with_reducible repeat (first | apply Kd.R_alloc | apply Kd.R_drewN | apply Kd.R_drew)); exact HO496.out) hb); have n1_ := Aside0.mk (Kd.R_below (by (with_reducible repeat (first | apply Kd.R_alloc | apply Kd.R_drewN | apply Kd.R_drew)); exact HO499.out) hb); have n2_ := Aside0.mk (Kd.R_below (by (with_reducible repeat (first | apply Kd.R_alloc | apply Kd.R_drewN | apply Kd.R_drew)); exact HO505.out) hb); have n3_ := Aside0.mk (Kd.R_below (by (with_reducible repeat (first | apply Kd.R_alloc | apply Kd.R_drewN | apply Kd.R_drew)); exact HO508.out) hb); have n4_ := Aside0.mk (blk_below (g := gb500) (o := .cells #[.int .i64 t492, .int .i64 t493, .slice Ao19 t494.length co19, .slice Ao20 t497.length co20] 40 (0, 0)) (by (with_reducible repeat (first | refine blk_drewN ?_ _ | refine blk_drew ?_ | refine blk_alloc ?_ _)); exact BK500.out) hb); have n5_ := Aside0.mk (below_step (by repeat (first | (with_reducible first | exact HB.out | apply below_alloc | apply pw_below_drewN | apply below_drew1 | refine below_set ?_ GE500.out) | exact HB.out)) hb); clear HO496; clear HO499; clear HO505; clear HO508; clear BK500; clear HB; have HO496 := n0_; have HO499 := n1_; have HO505 := n2_; have HO508 := n3_; have BK500 := n4_; have HB := n5_; clear n0_ n1_ n2_ n3_ n4_ n5_; (try clear hb); (try clear hb2); (try clear hk); (try clear hi); have hcz31_0 : w30.cell? ⟨gb500, 0, none⟩ = some (.int .i64 t492) := (blk_cell BK500.out 0).trans rfl; have hcz31_1 : w30.cell? ⟨gb500, 1, none⟩ = some (.int .i64 t493) := (blk_cell BK500.out 1).trans rfl; have hcz31_2 : w30.cell? ⟨gb500, 2, none⟩ = some (.slice Ao19 t494.length co19) := (blk_cell BK500.out 2).trans rfl; have hcz31_3 : w30.cell? ⟨gb500, 3, none⟩ = some (.slice Ao20 t497.length co20) := (blk_cell BK500.out 3).trans rfl; have hfz31_0 := blk_frozen BK500.out 0; have hfz31_1 := blk_frozen BK500.out 1; have hfz31_2 := blk_frozen BK500.out 2; have hfz31_3 := blk_frozen BK500.out 3))
              go_ret
              exact ⟨by first | rfl | (simp [errW_none, errW_some] <;> rfl) | (simp [*, errW_none, errW_some] <;> rfl), by repeat (first | (with_reducible first | exact HB.out | apply below_alloc | apply pw_below_drewN | apply below_drew1 | refine below_set ?_ GE500.out) | exact HB.out)⟩
            · rw [if_neg c14] at H
              have c14b0 : decide (t491 ≤ (wrap64 (t511 * t493))) = false := decide_eq_false c14
              clear c14
              exact absurd H (by simp)
          · rw [if_neg c13] at H
            have c13b0 : (t492 == t491) = false := beq_eq_false_iff_ne.mpr c13
            have c13b1 : (t492 != t491) = true := bne_iff_ne.mpr c13
            exact absurd H (by simp)
        · replace c12 := Bool.eq_false_iff.mpr c12
          subst c12
          have H1 : (some false) = some true := by rw [if_neg (show ¬ (false = true) by decide)] at H; exact H
          clear H
          have H := H1
          clear H1
          exact absurd H (by simp)
      · replace c9 := Bool.eq_false_iff.mpr c9
        subst c9
        have H1 : (some (t492 == 0)) = some true := by rw [if_neg (show ¬ (false = true) by decide)] at H; exact H
        clear H
        have H := H1
        clear H1
        have hres_ := Option.some.inj H
        clear H
        go_enter Try.func12, Try.ntmps12
        try go_wp2_with (first | ((with_reducible refine gate_callee (f := 40) rfl ?_); refine goesL_ (some 10) rfl rfl Try.func40 (by kernel_rfl) rfl #[.slice A0 l0.length c0] rfl (by (try simp only [List.map_toArray, List.map_cons, List.map_nil]); first | done | rfl | (simp only [List.length_drop, List.length_take]; rfl)) ?_; (with_reducible refine (spec_DrawPlanFor.calls k _ _ l0 t491 _ ?side1 ?side2 A3.out).mono ?_); (case side1 => repeat (first | exact HR0.out | (with_reducible refine Kd.C_alloc ?_ _) | (with_reducible refine Kd.C_drewN ?_ _) | (with_reducible refine Kd.C_drew ?_))); (case side2 => exact HC0.out); rintro e w32 ⟨rfl, hb⟩; refine ⟨_, rfl, ?_⟩; have n0_ := Aside0.mk (below_step (by repeat (first | (with_reducible first | exact HB.out | apply below_alloc | apply pw_below_drewN | apply below_drew1) | exact HB.out)) hb); clear HB; have HB := n0_; clear n0_; (try clear hb); (try clear hb2); (try clear hk); (try clear hi)) | ((with_reducible refine gate_callee (f := 37) rfl ?_); refine goesL_ (some 12) rfl rfl Try.func37 (by kernel_rfl) rfl #[.int .i64 t491] rfl (by (try simp only [List.map_toArray, List.map_cons, List.map_nil]); first | done | rfl | (simp only [List.length_drop, List.length_take]; rfl)) ?_; (with_reducible refine (impl_PlanFor.calls k t491 t492 t493 t494 t497 _ A4.out).mono ?_); rintro e w33 ⟨v495, v498, rfl, ho0, ho1, hb⟩; refine ⟨_, rfl, ?_⟩; have n0_ := Aside0.mk (Kd.R_lower ho0 (below_size (by repeat (first | (with_reducible first | exact HB.out | apply below_alloc | apply pw_below_drewN | apply below_drew1) | exact HB.out)))); have n1_ := Aside0.mk (Kd.R_lower ho1 (below_size (by repeat (first | (with_reducible first | exact HB.out | apply below_alloc | apply pw_below_drewN | apply below_drew1) | exact HB.out)))); have n2_ := Aside0.mk (below_step (by repeat (first | (with_reducible first | exact HB.out | apply below_alloc | apply pw_below_drewN | apply below_drew1) | exact HB.out)) hb); clear HB; have HO496 := n0_; have HO499 := n1_; have HB := n2_; clear n0_ n1_ n2_; (try clear hb); (try clear hb2); (try clear hk); (try clear hi); (try clear ho0); (try clear ho1)) | ((with_reducible refine gate_dst (N := 4) rfl ?_); refine box_event ?hg (N := 4) ?hd (cs := #[.int .i64 0, .int .i64 0, .slice none 0 0, .slice none 0 0]) (t := 40) ?hr ?_; (case hd => rfl); (case hg => rfl); (case hr => first | (go_simp; done) | (go_simp; rfl)); intro gb500 hg w34 hbox hb; have n0_ := Aside0.mk (Kd.R_below (by (with_reducible repeat (first | apply Kd.R_alloc | apply Kd.R_drewN | apply Kd.R_drew)); exact HO496.out) hb); have n1_ := Aside0.mk (Kd.R_below (by (with_reducible repeat (first | apply Kd.R_alloc | apply Kd.R_drewN | apply Kd.R_drew)); exact HO499.out) hb); have n2_ := Aside0.mk (below_step (by repeat (first | (with_reducible first | exact HB.out | apply below_alloc | apply pw_below_drewN | apply below_drew1) | exact HB.out)) hb); have n3_ := Aside0.mk (hbox); have n4_ := Aside0.mk ((by rw [hg]; exact (below_size (by repeat (first | (with_reducible first | exact HB.out | apply below_alloc | apply pw_below_drewN | apply below_drew1) | exact HB.out))) : w.heap.size ≤ gb500)); have n5_ := Aside0.mk ((by rw [hg]; exact (below_size (by repeat (first | (with_reducible first | exact HB.out | apply below_alloc | apply pw_below_drewN | apply below_drew1) | exact HB.out))) : w.heap.size ≤ gb500)); clear HO496; clear HO499; clear HB; have HO496 := n0_; have HO499 := n1_; have HB := n2_; have BK500 := n3_; have GW500 := n4_; have GE500 := n5_; clear n0_ n1_ n2_ n3_ n4_ n5_; clear hb hbox hg; have hcz35_0 : w34.cell? ⟨gb500, 0, none⟩ = some (.int .i64 0) := (blk_cell BK500.out 0).trans rfl; have hcz35_1 : w34.cell? ⟨gb500, 1, none⟩ = some (.int .i64 0) := (blk_cell BK500.out 1).trans rfl; have hcz35_2 : w34.cell? ⟨gb500, 2, none⟩ = some (.slice none 0 0) := (blk_cell BK500.out 2).trans rfl; have hcz35_3 : w34.cell? ⟨gb500, 3, none⟩ = some (.slice none 0 0) := (blk_cell BK500.out 3).trans rfl; have hfz35_0 := blk_frozen BK500.out 0; have hfz35_1 := blk_frozen BK500.out 1; have hfz35_2 := blk_frozen BK500.out 2; have hfz35_3 := blk_frozen BK500.out 3; obtain ⟨Ao36, co36, eo36⟩ := Kd.R_slice HO496.out; subst eo36; obtain ⟨Ao37, co37, eo37⟩ := Kd.R_slice HO499.out; subst eo37))
        have n0_ : Aside0 (Kd.R (Kd.int .i64) 3 ((((w34.setCell ⟨gb500, 0, none⟩ (.int .i64 t492)).setCell ⟨gb500, 1, none⟩ (.int .i64 t493)).setCell ⟨gb500, 2, none⟩ (.slice Ao36 t494.length co36)).setCell ⟨gb500, 3, none⟩ (.slice Ao37 t497.length co37)) w.heap.size (fun k_ => some k_ ≠ (.slice Ao37 t497.length co37 : Value).ownBlock) (.slice Ao36 t494.length co36) t494) := ⟨by (with_reducible repeat (first | apply Kd.R_alloc | apply Kd.R_drewN | apply Kd.R_drew)); exact Kd.R_mono (Kd.R_far (p := ⟨gb500, 3, none⟩) (Kd.R_far (p := ⟨gb500, 2, none⟩) (Kd.R_far (p := ⟨gb500, 1, none⟩) (Kd.R_far (p := ⟨gb500, 0, none⟩) (Kd.R_types HO496.out BK500.out (by decide)) (fun _ hk => hk.2) (.int .i64 t492)) (fun _ hk => hk.2) (.int .i64 t493)) (fun _ hk => hk.2) (.slice Ao36 t494.length co36)) (fun _ hk => hk.2) (.slice Ao37 t497.length co37)) (fun _ hk => hk.1)⟩
        have n1_ : Aside0 (Kd.R (Kd.int .i64) 3 ((((w34.setCell ⟨gb500, 0, none⟩ (.int .i64 t492)).setCell ⟨gb500, 1, none⟩ (.int .i64 t493)).setCell ⟨gb500, 2, none⟩ (.slice Ao36 t494.length co36)).setCell ⟨gb500, 3, none⟩ (.slice Ao37 t497.length co37)) w.heap.size (fun k_ => some k_ ≠ (.slice Ao36 t494.length co36 : Value).ownBlock) (.slice Ao37 t497.length co37) t497) := ⟨by (with_reducible repeat (first | apply Kd.R_alloc | apply Kd.R_drewN | apply Kd.R_drew)); exact Kd.R_mono (Kd.R_far (p := ⟨gb500, 3, none⟩) (Kd.R_far (p := ⟨gb500, 2, none⟩) (Kd.R_far (p := ⟨gb500, 1, none⟩) (Kd.R_far (p := ⟨gb500, 0, none⟩) (Kd.R_types HO499.out BK500.out (by decide)) (fun _ hk => hk.2) (.int .i64 t492)) (fun _ hk => hk.2) (.int .i64 t493)) (fun _ hk => hk.2) (.slice Ao36 t494.length co36)) (fun _ hk => hk.2) (.slice Ao37 t497.length co37)) (fun _ hk => hk.1)⟩
        have n2_ : Aside0 (((((w34.setCell ⟨gb500, 0, none⟩ (.int .i64 t492)).setCell ⟨gb500, 1, none⟩ (.int .i64 t493)).setCell ⟨gb500, 2, none⟩ (.slice Ao36 t494.length co36)).setCell ⟨gb500, 3, none⟩ (.slice Ao37 t497.length co37)).heap[gb500]? = some (.cells #[.int .i64 t492, .int .i64 t493, .slice Ao36 t494.length co36, .slice Ao37 t497.length co37] 40 (0, 0))) := ⟨by (with_reducible repeat (first | refine blk_drewN ?_ _ | refine blk_drew ?_ | refine blk_alloc ?_ _)); refine blk_put (cs := #[.int .i64 t492, .int .i64 t493, .slice Ao36 t494.length co36, .slice none 0 0]) ?_ 3 _ rfl; (with_reducible repeat (first | refine blk_drewN ?_ _ | refine blk_drew ?_ | refine blk_alloc ?_ _)); refine blk_put (cs := #[.int .i64 t492, .int .i64 t493, .slice none 0 0, .slice none 0 0]) ?_ 2 _ rfl; (with_reducible repeat (first | refine blk_drewN ?_ _ | refine blk_drew ?_ | refine blk_alloc ?_ _)); refine blk_put (cs := #[.int .i64 t492, .int .i64 0, .slice none 0 0, .slice none 0 0]) ?_ 1 _ rfl; (with_reducible repeat (first | refine blk_drewN ?_ _ | refine blk_drew ?_ | refine blk_alloc ?_ _)); refine blk_put (cs := #[.int .i64 0, .int .i64 0, .slice none 0 0, .slice none 0 0]) ?_ 0 _ rfl; (with_reducible repeat (first | refine blk_drewN ?_ _ | refine blk_drew ?_ | refine blk_alloc ?_ _)); exact BK500.out⟩
        have n3_ : Aside0 (Below w.heap.size w ((((w34.setCell ⟨gb500, 0, none⟩ (.int .i64 t492)).setCell ⟨gb500, 1, none⟩ (.int .i64 t493)).setCell ⟨gb500, 2, none⟩ (.slice Ao36 t494.length co36)).setCell ⟨gb500, 3, none⟩ (.slice Ao37 t497.length co37))) := ⟨by repeat (first | (with_reducible first | exact HB.out | apply below_alloc | apply pw_below_drewN | apply below_drew1 | refine below_set ?_ GE500.out) | exact HB.out)⟩
        (try clear HO496)
        (try clear HO499)
        (try clear BK500)
        (try clear HB)
        generalize ((((w34.setCell ⟨gb500, 0, none⟩ (.int .i64 t492)).setCell ⟨gb500, 1, none⟩ (.int .i64 t493)).setCell ⟨gb500, 2, none⟩ (.slice Ao36 t494.length co36)).setCell ⟨gb500, 3, none⟩ (.slice Ao37 t497.length co37)) = w38 at n0_ n1_ n2_ n3_ ⊢
        have HO496 := n0_
        have HO499 := n1_
        have BK500 := n2_
        have HB := n3_
        clear n0_ n1_ n2_ n3_
        have n0_ := Aside0.mk (Kd.R_drew HO496.out)
        have n1_ := Aside0.mk (Kd.R_drew HO499.out)
        have n2_ := Aside0.mk (blk_drew BK500.out)
        have n3_ := Aside0.mk (below_drew1 HB.out)
        clear HO496
        clear HO499
        clear BK500
        clear HB
        have HO496 := n0_
        have HO499 := n1_
        have BK500 := n2_
        have HB := n3_
        clear n0_ n1_ n2_ n3_
        refine start_ (n := 5) (S := fun w' => w'.cell? ⟨gb500, 0, none⟩ = some (.int .i64 t492) ∧ w'.cell? ⟨gb500, 1, none⟩ = some (.int .i64 t493) ∧ w'.cell? ⟨gb500, 2, none⟩ = some (.slice Ao36 t494.length co36) ∧ w'.cell? ⟨gb500, 3, none⟩ = some (.slice Ao37 t497.length co37)) (ds := []) #[false, false, false, false, false] (by kernel_rfl) rfl rfl ⟨(blk_cell BK500.out 0).trans rfl, (blk_cell BK500.out 1).trans rfl, (blk_cell BK500.out 2).trans rfl, (blk_cell BK500.out 3).trans rfl⟩ (fun hHeld => ?_)
        generalize w38.drew = w39 at HO496 HO499 BK500 HB hHeld ⊢
        refine pure_ (i := 1) (N := some 14) (v := ?_) (a' := ?_) #[false, true, false, false, false] rfl rfl (by kernel_rfl) (fun _ _ _ h => h) (Or.inl ⟨by rfl, ?_⟩) ?_ ?_
        rotate_left
        · intro w'
          go_simp
          with_reducible rfl
        rotate_left
        · simp only [Act.put, List.setIfInBounds_toArray, List.set_cons_zero, List.set_cons_succ, i64_w, i32_w]
          rfl
        refine take_ (i := 0) (N := some 13) (v := ?_) (a' := ?_) #[true, true, false, false, false] rfl rfl (by kernel_rfl) (fun _ _ _ h => h) (Or.inl ⟨by rfl, ?_⟩) hHeld ?_ ?_
        rotate_left
        · rintro w' ⟨s0, s1, s2, s3⟩
          go_simp
          with_reducible rfl
        rotate_left
        · simp only [Act.put, List.setIfInBounds_toArray, List.set_cons_zero, List.set_cons_succ, i64_w, i32_w]
          rfl
        refine one_ (i := 2) (N := some 15) #[true, true, true, false, false] rfl rfl (by kernel_rfl) (by decide) (fun K hK => ?_)
        refine goes_ Try.func36 (by kernel_rfl) rfl #[.int .i64 t491] (by rfl) rfl rfl (by (try simp only [List.map_toArray, List.map_cons, List.map_nil]); first | done | rfl | (simp only [List.length_drop, List.length_take]; rfl)) ?_
        with_reducible refine (spec_PlanFor.calls k t491 t501 t502 t503 t506 _ A5.out).mono ?_
        rintro e w40 ⟨v504, v507, rfl, ho0, ho1, hb⟩
        refine ⟨_, rfl, ?_⟩
        have n0_ := Aside0.mk (Kd.R_mono (Kd.R_told (Kd.R_told (Kd.R_old (by (with_reducible repeat (first | apply Kd.R_alloc | apply Kd.R_drewN | apply Kd.R_drew)); exact HO496.out) hb) (Kd.R_base ho0)) (Kd.R_base ho1)) (fun _ h_ => h_.1))
        have n1_ := Aside0.mk (Kd.R_mono (Kd.R_told (Kd.R_told (Kd.R_old (by (with_reducible repeat (first | apply Kd.R_alloc | apply Kd.R_drewN | apply Kd.R_drew)); exact HO499.out) hb) (Kd.R_base ho0)) (Kd.R_base ho1)) (fun _ h_ => h_.1))
        have n2_ := Aside0.mk (Kd.R_lower (Kd.R_new' (Kd.R_new' ho0 (Kd.R_lt (by (with_reducible repeat (first | apply Kd.R_alloc | apply Kd.R_drewN | apply Kd.R_drew)); exact HO496.out))) (Kd.R_lt (by (with_reducible repeat (first | apply Kd.R_alloc | apply Kd.R_drewN | apply Kd.R_drew)); exact HO499.out))) (below_size (by repeat (first | (with_reducible first | exact HB.out | apply below_alloc | apply pw_below_drewN | apply below_drew1 | refine below_set ?_ GE500.out) | exact HB.out))))
        have n3_ := Aside0.mk (Kd.R_lower (Kd.R_new' (Kd.R_new' ho1 (Kd.R_lt (by (with_reducible repeat (first | apply Kd.R_alloc | apply Kd.R_drewN | apply Kd.R_drew)); exact HO496.out))) (Kd.R_lt (by (with_reducible repeat (first | apply Kd.R_alloc | apply Kd.R_drewN | apply Kd.R_drew)); exact HO499.out))) (below_size (by repeat (first | (with_reducible first | exact HB.out | apply below_alloc | apply pw_below_drewN | apply below_drew1 | refine below_set ?_ GE500.out) | exact HB.out))))
        have n4_ := Aside0.mk (blk_below (g := gb500) (o := .cells #[.int .i64 t492, .int .i64 t493, .slice Ao36 t494.length co36, .slice Ao37 t497.length co37] 40 (0, 0)) (by (with_reducible repeat (first | refine blk_drewN ?_ _ | refine blk_drew ?_ | refine blk_alloc ?_ _)); exact BK500.out) hb)
        have n5_ := Aside0.mk (below_step (by repeat (first | (with_reducible first | exact HB.out | apply below_alloc | apply pw_below_drewN | apply below_drew1 | refine below_set ?_ GE500.out) | exact HB.out)) hb)
        clear HO496
        clear HO499
        clear BK500
        clear HB
        have HO496 := n0_
        have HO499 := n1_
        have HO505 := n2_
        have HO508 := n3_
        have BK500 := n4_
        have HB := n5_
        clear n0_ n1_ n2_ n3_ n4_ n5_
        (try clear hb)
        (try clear hb2)
        (try clear hk)
        (try clear hi)
        (try clear ho0)
        (try clear ho1)
        obtain ⟨Ao41, co41, eo41⟩ := Kd.R_slice HO505.out
        (first | subst eo41 | (injection eo41 with f1_ f2_ f3_; have f4_ := f1_.symm; have f5_ := f3_.symm; clear f1_ f2_ f3_; subst f4_; subst f5_))
        obtain ⟨Ao42, co42, eo42⟩ := Kd.R_slice HO508.out
        (first | subst eo42 | (injection eo42 with f1_ f2_ f3_; have f4_ := f1_.symm; have f5_ := f3_.symm; clear f1_ f2_ f3_; subst f4_; subst f5_))
        refine hK.out _ _ ⟨(blk_cell BK500.out 0).trans rfl, (blk_cell BK500.out 1).trans rfl, (blk_cell BK500.out 2).trans rfl, (blk_cell BK500.out 3).trans rfl⟩ (fun hHeld => ?_)
        clear hK K
        refine norm_ (a' := ?_) ?_ ?_
        rotate_left
        · show Act.put _ (some 15) _ = _
          simp only [Act.put, List.setIfInBounds_toArray, List.set_cons_zero, List.set_cons_succ, i64_w, i32_w]
          rfl
        refine one_ (i := 3) (N := some 16) #[true, true, true, true, false] rfl rfl (by kernel_rfl) (by decide) (fun K hK => ?_)
        refine goes_ Try.func41 (by kernel_rfl) rfl #[.agg #[.int .i64 t492, .int .i64 t493, .slice Ao36 t494.length co36, .slice Ao37 t497.length co37], .agg #[.int .i64 t501, .int .i64 t502, .slice Ao41 t503.length co41, .slice Ao42 t506.length co42]] (by rfl) rfl rfl (by (try simp only [List.map_toArray, List.map_cons, List.map_nil]); first | done | rfl | (simp only [List.length_drop, List.length_take]; rfl)) ?_
        with_reducible refine (laws_whPlan.calls k t492 t493 _ _ t494 _ _ t497 t501 t502 _ _ t503 _ _ t506 true _ ?side1 ?side2 ?side3 ?side4 ?side5 ?side6 ?side7 ?side8 A6.out).mono ?_
        (case side1 => repeat (first | exact (Kd.R_reads' HO496.out).2.2 | (with_reducible refine Kd.C_alloc ?_ _) | (with_reducible refine Kd.C_drewN ?_ _) | (with_reducible refine Kd.C_drew ?_)))
        (case side2 => exact (Kd.R_reads' HO496.out).2.1)
        (case side3 => repeat (first | exact (Kd.R_reads' HO499.out).2.2 | (with_reducible refine Kd.C_alloc ?_ _) | (with_reducible refine Kd.C_drewN ?_ _) | (with_reducible refine Kd.C_drew ?_)))
        (case side4 => exact (Kd.R_reads' HO499.out).2.1)
        (case side5 => repeat (first | exact (Kd.R_reads' HO505.out).2.2 | (with_reducible refine Kd.C_alloc ?_ _) | (with_reducible refine Kd.C_drewN ?_ _) | (with_reducible refine Kd.C_drew ?_)))
        (case side6 => exact (Kd.R_reads' HO505.out).2.1)
        (case side7 => repeat (first | exact (Kd.R_reads' HO508.out).2.2 | (with_reducible refine Kd.C_alloc ?_ _) | (with_reducible refine Kd.C_drewN ?_ _) | (with_reducible refine Kd.C_drew ?_)))
        (case side8 => exact (Kd.R_reads' HO508.out).2.1)
        rintro e w43 ⟨rfl, hb⟩
        refine ⟨_, rfl, ?_⟩
        have n0_ := Aside0.mk (Kd.R_below (by (with_reducible repeat (first | apply Kd.R_alloc | apply Kd.R_drewN | apply Kd.R_drew)); exact HO496.out) hb)
        have n1_ := Aside0.mk (Kd.R_below (by (with_reducible repeat (first | apply Kd.R_alloc | apply Kd.R_drewN | apply Kd.R_drew)); exact HO499.out) hb)
        have n2_ := Aside0.mk (Kd.R_below (by (with_reducible repeat (first | apply Kd.R_alloc | apply Kd.R_drewN | apply Kd.R_drew)); exact HO505.out) hb)
        have n3_ := Aside0.mk (Kd.R_below (by (with_reducible repeat (first | apply Kd.R_alloc | apply Kd.R_drewN | apply Kd.R_drew)); exact HO508.out) hb)
        have n4_ := Aside0.mk (blk_below (g := gb500) (o := .cells #[.int .i64 t492, .int .i64 t493, .slice Ao36 t494.length co36, .slice Ao37 t497.length co37] 40 (0, 0)) (by (with_reducible repeat (first | refine blk_drewN ?_ _ | refine blk_drew ?_ | refine blk_alloc ?_ _)); exact BK500.out) hb)
        have n5_ := Aside0.mk (below_step (by repeat (first | (with_reducible first | exact HB.out | apply below_alloc | apply pw_below_drewN | apply below_drew1 | refine below_set ?_ GE500.out) | exact HB.out)) hb)
        clear HO496
        clear HO499
        clear HO505
        clear HO508
        clear BK500
        clear HB
        have HO496 := n0_
        have HO499 := n1_
        have HO505 := n2_
        have HO508 := n3_
        have BK500 := n4_
        have HB := n5_
        clear n0_ n1_ n2_ n3_ n4_ n5_
        (try clear hb)
        (try clear hb2)
        (try clear hk)
        (try clear hi)
        refine hK.out _ _ ⟨(blk_cell BK500.out 0).trans rfl, (blk_cell BK500.out 1).trans rfl, (blk_cell BK500.out 2).trans rfl, (blk_cell BK500.out 3).trans rfl⟩ (fun hHeld => ?_)
        clear hK K
        refine norm_ (a' := ?_) ?_ ?_
        rotate_left
        · show Act.put _ (some 16) _ = _
          simp only [Act.put, List.setIfInBounds_toArray, List.set_cons_zero, List.set_cons_succ, i64_w, i32_w]
          rfl
        refine pure_ (i := 4) (N := some 17) (v := ?_) (a' := ?_) #[true, true, true, true, true] rfl rfl (by kernel_rfl) (fun _ _ _ h => h) (Or.inl ⟨by rfl, ?_⟩) ?_ ?_
        rotate_left
        · intro w'
          go_simp
          with_reducible rfl
        rotate_left
        · simp only [Act.put, List.setIfInBounds_toArray, List.set_cons_zero, List.set_cons_succ, i64_w, i32_w]
          rfl
        refine done_ (by kernel_rfl) ?_
        try go_wp2_with (first | ((with_reducible refine gate_callee (f := 24) rfl ?_); refine goesL_ (some 19) rfl rfl Try.func24 (by kernel_rfl) rfl #[.int .i64 t491, .int .i64 1, .int .i64 300] rfl (by (try simp only [List.map_toArray, List.map_cons, List.map_nil]); first | done | rfl | (simp only [List.length_drop, List.length_take]; rfl)) ?_; (with_reducible refine (laws_whIn.calls t491 1 300 false _ A8.out).mono ?_); rintro e w' ⟨rfl, ⟨nd, rfl⟩⟩; refine ⟨_, rfl, ?_⟩; have hcz44_0 : w43.cell? ⟨gb500, 0, none⟩ = some (.int .i64 t492) := (blk_cell BK500.out 0).trans rfl; have hcz44_1 : w43.cell? ⟨gb500, 1, none⟩ = some (.int .i64 t493) := (blk_cell BK500.out 1).trans rfl; have hcz44_2 : w43.cell? ⟨gb500, 2, none⟩ = some (.slice Ao36 t494.length co36) := (blk_cell BK500.out 2).trans rfl; have hcz44_3 : w43.cell? ⟨gb500, 3, none⟩ = some (.slice Ao37 t497.length co37) := (blk_cell BK500.out 3).trans rfl; have hfz44_0 := blk_frozen BK500.out 0; have hfz44_1 := blk_frozen BK500.out 1; have hfz44_2 := blk_frozen BK500.out 2; have hfz44_3 := blk_frozen BK500.out 3))
        go_ret
        exact ⟨by first | rfl | (simp [errW_none, errW_some] <;> rfl) | (simp [*, errW_none, errW_some] <;> rfl), by repeat (first | (with_reducible first | exact HB.out | apply below_alloc | apply pw_below_drewN | apply below_drew1 | refine below_set ?_ GE500.out) | exact HB.out)⟩
    · replace c7 := Bool.eq_false_iff.mpr c7
      subst c7
      have H1 : (some false) = some true := by rw [if_neg (show ¬ (false = true) by decide)] at H; exact H
      clear H
      have H := H1
      clear H1
      exact absurd H (by simp)

/-- THE ONE PURE STATEMENT of laws_FnPlanFor: yours. -/
def laws_FnPlanFor.Pure : Prop := ∀ (l0 : List Int), l0.length ≤ maxLen → l0.length * 1 ≤ 140737488351232 → (∀ x ∈ l0, (Lit.int .u8 x).wf = true) → ∃ k, laws_FnPlanFor.f k l0 = some true
theorem laws_FnPlanFor.walk (P : laws_FnPlanFor.Pure) (a0 : Option Addr) (len0 cap0 : Nat) (z0 : List Int) (w : World) (w0 : (a0 = none ∧ len0 = 0 ∧ cap0 = 0 ∧ z0 = []) ∨ ∃ x, a0 = some x ∧ len0 ≤ cap0 ∧ cap0 ≤ maxLen ∧ z0.length = cap0 ∧ (∀ i, i < z0.length → w.cell? (x.add i) = some (.int .u8 (z0.getD i 0))) ∧ ∀ n ∈ z0, (Lit.int .u8 n).wf = true) (y0 : len0 * 1 ≤ 140737488351232) :
    Calls Try.prog 12 #[.slice a0 len0 cap0] w fun e w' => e = .returned (.bool true) ∧ Below w.heap.size w w' := by
  obtain ⟨l0, rfl, hr0, hm0, hw0, hc0⟩ := ReadsInt.ofRowC w0
  obtain ⟨k, h⟩ := P l0 hm0 y0 hw0
  refine (laws_FnPlanFor.calls k _ _ l0 w (Kd.C_of_reads (d := (0 : Int)) (h1 := fun _ => rfl) hr0) hc0 h).mono ?_
  rintro e w' ⟨rfl, hd⟩
  exact ⟨rfl, hd⟩

end Go.Proofs.Ytmmpkkjaeakplaa.X
