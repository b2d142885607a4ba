/- Printed for this claim by the session's program (the kit's printer, several laws in one place): the functions that the law reaches, each as a plain Lean function, and the proof that the Go code comes to its answers. Conditions: none beside those that each theorem states. -/
import Derived.Test.YtaeeickboakmgaaXx0
import Derived.Test.YtaeeickboakmgaaXx2
import Derived.Test.YtaeeickboakmgaaXx3
import Derived.Test.YtaeeickboakmgaaXx5
import Derived.Test.YtaeeickboakmgaaWStep
namespace Go.Proofs.Ytaeeickboakmgaa.X
open Go.RowKit Go.Proofs.YtaeeickboakmgaaW.PrintWords Go.Proofs.YtaeeickboakmgaaW.PrintLast Go.Proofs.YtaeeickboakmgaaW.PrintStep Go.Proofs.YtaeeickboakmgaaW.PrintMore
attribute [local go_sem] max2_int min2_int max_two min_two max_three min_three max_four min_four   -- for this text's walks alone
set_option linter.unusedVariables false
set_option linter.unusedSimpArgs false

theorem nest3_ {a b c : Bool} (h : (a != (b != c)) = false) : (a == (!(b == c))) = true := by revert h; cases a <;> cases b <;> cases c <;> decide

/-! ### laws_FnRowXor: function 3 -/
mutual
def laws_FnRowXor.j0 : Nat → List Int → List Int → List Int → Bool → Option (Bool)
 | 0, _, _, _, _ => none
 | k + 1, x3, x4, x5, x40 => if x40 = true then ((spec_RowXor.f k x3 x4).bind fun t222 => ((laws_whInts.f k x5 t222).bind fun t225 => (some t225))) else (laws_FnRowXor.l0 k x3 x4 x5 0)
def laws_FnRowXor.l0 : Nat → List Int → List Int → List Int → Int → Option (Bool)
 | 0, _, _, _, _ => none
 | k + 1, x3, x4, x5, x6 => if x6 < 24 then ((laws_whHas.f k x5 x6).bind fun t226 => ((laws_whHas.f k x3 x6).bind fun t227 => ((laws_whHas.f k x4 x6).bind fun t228 => (if (t226 != (t227 != t228)) = true then (some false) else (laws_FnRowXor.l0 k x3 x4 x5 (wrap64 (x6 + 1))))))) else ((impl_RowOk.f k x5 24).bind fun t229 => (if t229 = true then ((impl_RowXor.f k x5 x4).bind fun t230 => ((laws_whInts.f k t230 x3).bind fun t233 => (if t233 = true then ((impl_RowXor.f k x4 x3).bind fun t234 => ((laws_whInts.f k t234 x5).bind fun t237 => (some t237))) else (some false)))) else (some false)))
end
def laws_FnRowXor.f (k : Nat) (l0 : List Int) : Option (Bool) := if (l0.length : Int) > 1048576 then (some true) else ((spec_DrawRowXor.f k l0).bind fun bt205 => ((impl_RowXor.f k bt205.1 bt205.2).bind fun t211 => ((spec_RowXor.f k bt205.1 bt205.2).bind fun t214 => ((laws_whInts.f k t211 t214).bind fun t217 => (if t217 = true then ((impl_RowOk.f k bt205.1 24).bind fun t218 => ((spec_RowOk.f k bt205.1 24).bind fun t219 => (if (t218 != t219) = true then (laws_FnRowXor.j0 k bt205.1 bt205.2 t211 true) else ((spec_RowOk.f k bt205.1 24).bind fun t220 => (if t220 = true then ((spec_RowOk.f k bt205.2 24).bind fun t221 => (laws_FnRowXor.j0 k bt205.1 bt205.2 t211 (!t221))) else (laws_FnRowXor.j0 k bt205.1 bt205.2 t211 true)))))) else (laws_FnRowXor.j0 k bt205.1 bt205.2 t211 true))))))
theorem laws_FnRowXor.mono_l : ∀ k, (∀ y0 y1 y2 y3, LeO (laws_FnRowXor.j0 k y0 y1 y2 y3) (laws_FnRowXor.j0 (k + 1) y0 y1 y2 y3)) ∧ (∀ y0 y1 y2 y3, LeO (laws_FnRowXor.l0 k y0 y1 y2 y3) (laws_FnRowXor.l0 (k + 1) y0 y1 y2 y3))
 | 0 => ⟨fun _ _ _ _ r h => by simp [laws_FnRowXor.j0] at h, fun _ _ _ _ r h => by simp [laws_FnRowXor.l0] at h⟩
 | k + 1 => by
  obtain ⟨ih0, ih1⟩ := laws_FnRowXor.mono_l k
  refine ⟨?_, ?_⟩
  ·intro y0 y1 y2 y3
   unfold laws_FnRowXor.j0
   repeat' first
   | (with_reducible exact ih0 _ _ _ _)
   | (with_reducible exact ih1 _ _ _ _)
   | (with_reducible exact impl_RowOk.mono _ _ _)
   | (with_reducible exact impl_RowXor.mono _ _ _)
   | (with_reducible exact laws_whHas.mono _ _ _)
   | (with_reducible exact laws_whInts.mono _ _ _)
   | (with_reducible exact spec_DrawRowXor.mono _ _)
   | (with_reducible exact spec_RowOk.mono _ _ _)
   | (with_reducible exact spec_RowXor.mono _ _ _)
   | (with_reducible exact LeO.refl _)
   | (with_reducible exact LeO.none _)
   | (with_reducible refine LeO.ite ?_ ?_)
   | (with_reducible refine LeO.bind ?_ (fun _ => ?_))
   | exact ih0 _ _ _ _
   | exact ih1 _ _ _ _
   | exact impl_RowOk.mono _ _ _
   | exact impl_RowXor.mono _ _ _
   | exact laws_whHas.mono _ _ _
   | exact laws_whInts.mono _ _ _
   | exact spec_DrawRowXor.mono _ _
   | exact spec_RowOk.mono _ _ _
   | exact spec_RowXor.mono _ _ _
   | exact LeO.none _
   | refine LeO.ite ?_ ?_
   | refine LeO.bind ?_ (fun _ => ?_)
  ·intro y0 y1 y2 y3
   unfold laws_FnRowXor.l0
   repeat' first
   | (with_reducible exact ih0 _ _ _ _)
   | (with_reducible exact ih1 _ _ _ _)
   | (with_reducible exact impl_RowOk.mono _ _ _)
   | (with_reducible exact impl_RowXor.mono _ _ _)
   | (with_reducible exact laws_whHas.mono _ _ _)
   | (with_reducible exact laws_whInts.mono _ _ _)
   | (with_reducible exact spec_DrawRowXor.mono _ _)
   | (with_reducible exact spec_RowOk.mono _ _ _)
   | (with_reducible exact spec_RowXor.mono _ _ _)
   | (with_reducible exact LeO.refl _)
   | (with_reducible exact LeO.none _)
   | (with_reducible refine LeO.ite ?_ ?_)
   | (with_reducible refine LeO.bind ?_ (fun _ => ?_))
   | exact ih0 _ _ _ _
   | exact ih1 _ _ _ _
   | exact impl_RowOk.mono _ _ _
   | exact impl_RowXor.mono _ _ _
   | exact laws_whHas.mono _ _ _
   | exact laws_whInts.mono _ _ _
   | exact spec_DrawRowXor.mono _ _
   | exact spec_RowOk.mono _ _ _
   | exact spec_RowXor.mono _ _ _
   | exact LeO.none _
   | refine LeO.ite ?_ ?_
   | refine LeO.bind ?_ (fun _ => ?_)
theorem laws_FnRowXor.mono : ∀ a0 k, LeO (laws_FnRowXor.f k a0) (laws_FnRowXor.f (k + 1) a0) := by
 intro a0 k
 obtain ⟨ih0, ih1⟩ := laws_FnRowXor.mono_l k
 unfold laws_FnRowXor.f
 repeat' first
  | (with_reducible exact ih0 _ _ _ _)
  | (with_reducible exact ih1 _ _ _ _)
  | (with_reducible exact impl_RowOk.mono _ _ _)
  | (with_reducible exact impl_RowXor.mono _ _ _)
  | (with_reducible exact laws_whHas.mono _ _ _)
  | (with_reducible exact laws_whInts.mono _ _ _)
  | (with_reducible exact spec_DrawRowXor.mono _ _)
  | (with_reducible exact spec_RowOk.mono _ _ _)
  | (with_reducible exact spec_RowXor.mono _ _ _)
  | (with_reducible exact LeO.refl _)
  | (with_reducible exact LeO.none _)
  | (with_reducible refine LeO.ite ?_ ?_)
  | (with_reducible refine LeO.bind ?_ (fun _ => ?_))
  | exact ih0 _ _ _ _
  | exact ih1 _ _ _ _
  | exact impl_RowOk.mono _ _ _
  | exact impl_RowXor.mono _ _ _
  | exact laws_whHas.mono _ _ _
  | exact laws_whInts.mono _ _ _
  | exact spec_DrawRowXor.mono _ _
  | exact spec_RowOk.mono _ _ _
  | exact spec_RowXor.mono _ _ _
  | exact LeO.none _
  | refine LeO.ite ?_ ?_
  | refine LeO.bind ?_ (fun _ => ?_)
set_option maxHeartbeats 8000000 in
set_option maxRecDepth 100000 in
theorem laws_FnRowXor.calls (k : Nat) (A0 : Option Addr) (c0 : Nat) (l0 : List Int) (w : World) (hr0 : Kd.C (Kd.int .u8) w A0 l0.length l0) (hc0 : l0.length ≤ c0) (h : laws_FnRowXor.f k l0 = some true) :
 Calls Try.prog 3 #[.slice A0 l0.length c0] w fun e w' => e = .returned (.bool true) ∧ Below w.heap.size w w' := by
 have HR0 := Aside0.mk hr0
 have HC0 := Aside0.mk hc0
 clear hr0 hc0
 have HB := Aside0.mk (Below.refl w.heap.size w)
 have H : (if (l0.length : Int) > 1048576 then (some true) else ((spec_DrawRowXor.f k l0).bind fun bt205 => ((impl_RowXor.f k bt205.1 bt205.2).bind fun t211 => ((spec_RowXor.f k bt205.1 bt205.2).bind fun t214 => ((laws_whInts.f k t211 t214).bind fun t217 => (if t217 = true then ((impl_RowOk.f k bt205.1 24).bind fun t218 => ((spec_RowOk.f k bt205.1 24).bind fun t219 => (if (t218 != t219) = true then (laws_FnRowXor.j0 k bt205.1 bt205.2 t211 true) else ((spec_RowOk.f k bt205.1 24).bind fun t220 => (if t220 = true then ((spec_RowOk.f k bt205.2 24).bind fun t221 => (laws_FnRowXor.j0 k bt205.1 bt205.2 t211 (!t221))) else (laws_FnRowXor.j0 k bt205.1 bt205.2 t211 true)))))) else (laws_FnRowXor.j0 k bt205.1 bt205.2 t211 true))))))) = some true := h
 clear h
 by_cases c2 : (l0.length : Int) > 1048576
 ·rw [if_pos c2] at H
  have c2b0 : decide (1048576 < (l0.length : Int)) = true := decide_eq_true c2
  have c2b1 : decide (1048576 < l0.length) = true := decide_eq_true (by omega)
  clear c2
  clear H
  go_enter Try.func3, Try.ntmps3
  go_wp2
  go_ret
  exact ⟨by first | rfl | (simp [errW_none, errW_some] <;> rfl) | (simp [*, errW_none, errW_some] <;> rfl), by repeat (first | (with_reducible first | exact HB.out | apply below_alloc | apply pw_below_drewN | apply below_drew1) | exact HB.out)⟩
 ·rw [if_neg c2] at H
  have c2b0 : decide (1048576 < (l0.length : Int)) = false := decide_eq_false c2
  have c2b1 : decide (1048576 < l0.length) = false := decide_eq_false (by omega)
  clear c2
  replace H := bI_ H
  obtain ⟨⟨t205, t206⟩, A30, H⟩ := H
  replace H : ((impl_RowXor.f k t205 t206).bind fun t211 => ((spec_RowXor.f k t205 t206).bind fun t214 => ((laws_whInts.f k t211 t214).bind fun t217 => (if t217 = true then ((impl_RowOk.f k t205 24).bind fun t218 => ((spec_RowOk.f k t205 24).bind fun t219 => (if (t218 != t219) = true then (laws_FnRowXor.j0 k t205 t206 t211 true) else ((spec_RowOk.f k t205 24).bind fun t220 => (if t220 = true then ((spec_RowOk.f k t206 24).bind fun t221 => (laws_FnRowXor.j0 k t205 t206 t211 (!t221))) else (laws_FnRowXor.j0 k t205 t206 t211 true)))))) else (laws_FnRowXor.j0 k t205 t206 t211 true))))) = some true := H
  have A3 := Aside0.mk A30
  clear A30
  replace H := bI_ H
  obtain ⟨t211, A40, H⟩ := H
  replace H : ((spec_RowXor.f k t205 t206).bind fun t214 => ((laws_whInts.f k t211 t214).bind fun t217 => (if t217 = true then ((impl_RowOk.f k t205 24).bind fun t218 => ((spec_RowOk.f k t205 24).bind fun t219 => (if (t218 != t219) = true then (laws_FnRowXor.j0 k t205 t206 t211 true) else ((spec_RowOk.f k t205 24).bind fun t220 => (if t220 = true then ((spec_RowOk.f k t206 24).bind fun t221 => (laws_FnRowXor.j0 k t205 t206 t211 (!t221))) else (laws_FnRowXor.j0 k t205 t206 t211 true)))))) else (laws_FnRowXor.j0 k t205 t206 t211 true)))) = some true := H
  have A4 := Aside0.mk A40
  clear A40
  have HC5 := Aside0.mk H
  clear H
  go_enter Try.func3, Try.ntmps3
  go_upto_region 5 with (first | ((with_reducible refine gate_callee (f := 15) rfl ?_); refine goesL_ (some 12) rfl rfl Try.func15 (by kernel_rfl) rfl #[.slice A0 l0.length c0] rfl (by (try simp only [List.map_toArray, List.map_cons, List.map_nil]); first | done | rfl | (simp only [List.length_drop, List.length_take]; rfl)) ?_; (with_reducible refine (spec_DrawRowXor.calls k _ _ l0 t205 t206 _ ?side1 ?side2 A3.out).mono ?_); (case side1 => exact gC HR0.out); (case side2 => exact HC0.out); rintro e w6 ⟨v207, v209, rfl, ho0, ho1, hb⟩; refine ⟨_, rfl, ?_⟩; have n0_ := Aside0.mk (Kd.R_lower ho0 (below_size (gB HB.out))); have n1_ := Aside0.mk (Kd.R_lower ho1 (below_size (gB HB.out))); have n2_ := Aside0.mk (below_step (gB HB.out) hb); clear HB; have HO208 := n0_; have HO210 := n1_; have HB := n2_; clear n0_ n1_ n2_; (try clear hb); (try clear hb2); (try clear hk); (try clear hi); (try clear ho0); (try clear ho1); obtain ⟨Ao7, co7, eo7⟩ := Kd.R_slice HO208.out; subst eo7; obtain ⟨Ao8, co8, eo8⟩ := Kd.R_slice HO210.out; subst eo8) | ((with_reducible refine gate_callee (f := 16) rfl ?_); refine goesL_ (some 17) rfl rfl Try.func16 (by kernel_rfl) rfl #[.slice Ao7 t205.length co7, .slice Ao8 t206.length co8] rfl (by (try simp only [List.map_toArray, List.map_cons, List.map_nil]); first | done | rfl | (simp only [List.length_drop, List.length_take]; rfl)) ?_; (with_reducible refine (impl_RowXor.calls k _ _ t205 _ _ t206 t211 _ ?side1 ?side2 ?side3 ?side4 A4.out).mono ?_); (case side1 => repeat (first | exact (Kd.R_reads' HO208.out).2.2 | (with_reducible refine Kd.C_alloc ?_ _) | (with_reducible refine Kd.C_drewN ?_ _) | (with_reducible refine Kd.C_drew ?_))); (case side2 => exact (Kd.R_reads' HO208.out).2.1); (case side3 => repeat (first | exact (Kd.R_reads' HO210.out).2.2 | (with_reducible refine Kd.C_alloc ?_ _) | (with_reducible refine Kd.C_drewN ?_ _) | (with_reducible refine Kd.C_drew ?_))); (case side4 => exact (Kd.R_reads' HO210.out).2.1); rintro e w9 ⟨v212, rfl, ho0, hb⟩; refine ⟨_, rfl, ?_⟩; have n0_ := Aside0.mk (Kd.R_elder' (gR HO208.out) (Kd.R_base ho0) hb); have n1_ := Aside0.mk (Kd.R_elder' (gR HO210.out) (Kd.R_base ho0) hb); have n2_ := Aside0.mk (Kd.R_lower (Kd.R_new' (Kd.R_new' ho0 (Kd.R_lt (gR HO208.out))) (Kd.R_lt (gR HO210.out))) (below_size (gB HB.out))); have n3_ := Aside0.mk (below_step (gB HB.out) hb); clear HO208; clear HO210; clear HB; have HO208 := n0_; have HO210 := n1_; have HO213 := n2_; have HB := n3_; clear n0_ n1_ n2_ n3_; (try clear hb); (try clear hb2); (try clear hk); (try clear hi); (try clear ho0)))
  (try simp only [Act.put, eA_, e0_, eS_])
  go_cut [40] (fun v40 wc => ∃ (kq : Nat) (x40_4 : Bool), v40 = .bool x40_4 ∧ Aside0 (laws_FnRowXor.j0 kq t205 t206 t211 x40_4 = some true) ∧ Aside0 (kq ≤ k) ∧ Aside0 (Kd.R (Kd.int .i64) 3 wc w.heap.size (fun k_ => some k_ ≠ ((.slice Ao8 t206.length co8) : Value).ownBlock ∧ some k_ ≠ (v212 : Value).ownBlock) (.slice Ao7 t205.length co7) t205) ∧ Aside0 (Kd.R (Kd.int .i64) 3 wc w.heap.size (fun k_ => some k_ ≠ ((.slice Ao7 t205.length co7) : Value).ownBlock ∧ some k_ ≠ (v212 : Value).ownBlock) (.slice Ao8 t206.length co8) t206) ∧ Aside0 (Kd.R (Kd.int .i64) 3 wc w.heap.size (fun k_ => some k_ ≠ ((.slice Ao7 t205.length co7) : Value).ownBlock ∧ some k_ ≠ ((.slice Ao8 t206.length co8) : Value).ownBlock) v212 t211) ∧ Aside0 (Below w.heap.size w wc))
  case first =>
   have H := HC5.out
   clear HC5
   replace H := bI_ H
   obtain ⟨t214, A100, H⟩ := H
   replace H : ((laws_whInts.f k t211 t214).bind fun t217 => (if t217 = true then ((impl_RowOk.f k t205 24).bind fun t218 => ((spec_RowOk.f k t205 24).bind fun t219 => (if (t218 != t219) = true then (laws_FnRowXor.j0 k t205 t206 t211 true) else ((spec_RowOk.f k t205 24).bind fun t220 => (if t220 = true then ((spec_RowOk.f k t206 24).bind fun t221 => (laws_FnRowXor.j0 k t205 t206 t211 (!t221))) else (laws_FnRowXor.j0 k t205 t206 t211 true)))))) else (laws_FnRowXor.j0 k t205 t206 t211 true))) = some true := H
   have A10 := Aside0.mk A100
   clear A100
   replace H := bI_ H
   obtain ⟨t217, A110, H⟩ := H
   replace H : (if t217 = true then ((impl_RowOk.f k t205 24).bind fun t218 => ((spec_RowOk.f k t205 24).bind fun t219 => (if (t218 != t219) = true then (laws_FnRowXor.j0 k t205 t206 t211 true) else ((spec_RowOk.f k t205 24).bind fun t220 => (if t220 = true then ((spec_RowOk.f k t206 24).bind fun t221 => (laws_FnRowXor.j0 k t205 t206 t211 (!t221))) else (laws_FnRowXor.j0 k t205 t206 t211 true)))))) else (laws_FnRowXor.j0 k t205 t206 t211 true)) = some true := H
   have A11 := Aside0.mk A110
   clear A110
   by_cases c12 : t217 = true
   ·subst c12
    have H1 : ((impl_RowOk.f k t205 24).bind fun t218 => ((spec_RowOk.f k t205 24).bind fun t219 => (if (t218 != t219) = true then (laws_FnRowXor.j0 k t205 t206 t211 true) else ((spec_RowOk.f k t205 24).bind fun t220 => (if t220 = true then ((spec_RowOk.f k t206 24).bind fun t221 => (laws_FnRowXor.j0 k t205 t206 t211 (!t221))) else (laws_FnRowXor.j0 k t205 t206 t211 true)))))) = some true := by rw [if_pos rfl] at H; exact H
    clear H
    have H := H1
    clear H1
    replace H := bI_ H
    obtain ⟨t218, A130, H⟩ := H
    replace H : ((spec_RowOk.f k t205 24).bind fun t219 => (if (t218 != t219) = true then (laws_FnRowXor.j0 k t205 t206 t211 true) else ((spec_RowOk.f k t205 24).bind fun t220 => (if t220 = true then ((spec_RowOk.f k t206 24).bind fun t221 => (laws_FnRowXor.j0 k t205 t206 t211 (!t221))) else (laws_FnRowXor.j0 k t205 t206 t211 true))))) = some true := H
    have A13 := Aside0.mk A130
    clear A130
    replace H := bI_ H
    obtain ⟨t219, A140, H⟩ := H
    replace H : (if (t218 != t219) = true then (laws_FnRowXor.j0 k t205 t206 t211 true) else ((spec_RowOk.f k t205 24).bind fun t220 => (if t220 = true then ((spec_RowOk.f k t206 24).bind fun t221 => (laws_FnRowXor.j0 k t205 t206 t211 (!t221))) else (laws_FnRowXor.j0 k t205 t206 t211 true)))) = some true := H
    have A14 := Aside0.mk A140
    clear A140
    by_cases c15 : (t218 != t219) = true
    ·rw [if_pos c15] at H
     have c15b0 : (t218 != t219) = true := c15
     (try (have c15b1 : decide (t218 = t219) = false := by simpa using c15))
     (try (have c15b2 : (t218 == t219) = false := by simpa using c15))
     (try (have c15b3 : ¬ (t218 = t219) := by simpa using c15))
     clear c15
     (first | rw [c15b0] | (simp only [i64_w, i32_w]; rw [c15b0]) | skip)
     have H' := Aside0.mk H
     clear H
     go_wp2_with (first | ((with_reducible refine gate_callee (f := 18) rfl ?_); refine goesL_ (some 21) rfl rfl Try.func18 (by kernel_rfl) rfl #[.slice Ao7 t205.length co7, .slice Ao8 t206.length co8] rfl (by (try simp only [List.map_toArray, List.map_cons, List.map_nil]); first | done | rfl | (simp only [List.length_drop, List.length_take]; rfl)) ?_; (with_reducible refine (spec_RowXor.calls k _ _ t205 _ _ t206 t214 _ ?side1 ?side2 ?side3 ?side4 A10.out).mono ?_); (case side1 => repeat (first | exact (Kd.R_reads' HO208.out).2.2 | (with_reducible refine Kd.C_alloc ?_ _) | (with_reducible refine Kd.C_drewN ?_ _) | (with_reducible refine Kd.C_drew ?_))); (case side2 => exact (Kd.R_reads' HO208.out).2.1); (case side3 => repeat (first | exact (Kd.R_reads' HO210.out).2.2 | (with_reducible refine Kd.C_alloc ?_ _) | (with_reducible refine Kd.C_drewN ?_ _) | (with_reducible refine Kd.C_drew ?_))); (case side4 => exact (Kd.R_reads' HO210.out).2.1); rintro e w16 ⟨v215, rfl, ho0, hb⟩; refine ⟨_, rfl, ?_⟩; have n0_ := Aside0.mk (Kd.R_elder' (gR HO208.out) (Kd.R_base ho0) hb); have n1_ := Aside0.mk (Kd.R_elder' (gR HO210.out) (Kd.R_base ho0) hb); have n2_ := Aside0.mk (Kd.R_elder' (gR HO213.out) (Kd.R_base ho0) hb); have n3_ := Aside0.mk (Kd.R_lower (Kd.R_new' (Kd.R_new' (Kd.R_new' ho0 (Kd.R_lt (gR HO208.out))) (Kd.R_lt (gR HO210.out))) (Kd.R_lt (gR HO213.out))) (below_size (gB HB.out))); have n4_ := Aside0.mk (below_step (gB HB.out) hb); clear HO208; clear HO210; clear HO213; clear HB; have HO208 := n0_; have HO210 := n1_; have HO213 := n2_; have HO216 := n3_; have HB := n4_; clear n0_ n1_ n2_ n3_ n4_; (try clear hb); (try clear hb2); (try clear hk); (try clear hi); (try clear ho0); obtain ⟨Ao17, co17, eo17⟩ := Kd.R_slice HO213.out; subst eo17; obtain ⟨Ao18, co18, eo18⟩ := Kd.R_slice HO216.out; subst eo18) | ((with_reducible refine gate_callee (f := 17) rfl ?_); refine goesL_ (some 22) rfl rfl Try.func17 (by kernel_rfl) rfl #[.slice Ao17 t211.length co17, .slice Ao18 t214.length co18] rfl (by (try simp only [List.map_toArray, List.map_cons, List.map_nil]); first | done | rfl | (simp only [List.length_drop, List.length_take]; rfl)) ?_; (with_reducible refine (laws_whInts.calls k _ _ t211 _ _ t214 true _ ?side1 ?side2 ?side3 ?side4 A11.out).mono ?_); (case side1 => repeat (first | exact (Kd.R_reads' HO213.out).2.2 | (with_reducible refine Kd.C_alloc ?_ _) | (with_reducible refine Kd.C_drewN ?_ _) | (with_reducible refine Kd.C_drew ?_))); (case side2 => exact (Kd.R_reads' HO213.out).2.1); (case side3 => repeat (first | exact (Kd.R_reads' HO216.out).2.2 | (with_reducible refine Kd.C_alloc ?_ _) | (with_reducible refine Kd.C_drewN ?_ _) | (with_reducible refine Kd.C_drew ?_))); (case side4 => exact (Kd.R_reads' HO216.out).2.1); rintro e w' ⟨rfl, ⟨nd, rfl⟩⟩; refine ⟨_, rfl, ?_⟩) | (go_at_call 19; (with_reducible refine (impl_RowOk.calls k _ _ t205 24 t218 _ ?side1 ?side2 A13.out).mono ?_); (case side1 => repeat (first | exact (Kd.R_reads' HO208.out).2.2 | (with_reducible refine Kd.C_alloc ?_ _) | (with_reducible refine Kd.C_drewN ?_ _) | (with_reducible refine Kd.C_drew ?_))); (case side2 => exact (Kd.R_reads' HO208.out).2.1); rintro e w' ⟨rfl, ⟨nd, rfl⟩⟩) | (go_at_call 20; (with_reducible refine (spec_RowOk.calls k _ _ t205 24 t219 _ ?side1 ?side2 A14.out).mono ?_); (case side1 => repeat (first | exact (Kd.R_reads' HO208.out).2.2 | (with_reducible refine Kd.C_alloc ?_ _) | (with_reducible refine Kd.C_drewN ?_ _) | (with_reducible refine Kd.C_drew ?_))); (case side2 => exact (Kd.R_reads' HO208.out).2.1); rintro e w' ⟨rfl, ⟨nd, rfl⟩⟩))
     all_goals
      go_meet
      case rel => exact ⟨_, (true), (by first | rfl | (simp; done) | (simp [*]; done) | (simp [wrap64]; done)), H', ⟨by first | omega | exact Nat.le_refl _⟩, ⟨by (with_reducible repeat (first | apply Kd.R_alloc | apply Kd.R_drewN | apply Kd.R_drew)); exact Kd.R_mono HO208.out (fun _ hk => ⟨hk.1.1, hk.1.2⟩)⟩, ⟨by (with_reducible repeat (first | apply Kd.R_alloc | apply Kd.R_drewN | apply Kd.R_drew)); exact Kd.R_mono HO210.out (fun _ hk => ⟨hk.1.1, hk.1.2⟩)⟩, ⟨by (with_reducible repeat (first | apply Kd.R_alloc | apply Kd.R_drewN | apply Kd.R_drew)); exact Kd.R_mono HO213.out (fun _ hk => ⟨hk.1.1.2, hk.1.2⟩)⟩, ⟨by repeat (first | (with_reducible first | exact HB.out | apply below_alloc | apply pw_below_drewN | apply below_drew1) | exact HB.out)⟩⟩
    ·rw [if_neg c15] at H
     have c15b0 : (t218 != t219) = false := by simpa using c15
     (try (have c15b1 : decide (t218 = t219) = true := by simpa using c15))
     (try (have c15b2 : (t218 == t219) = true := by simpa using c15))
     clear c15
     (first | rw [c15b0] | (simp only [i64_w, i32_w]; rw [c15b0]) | skip)
     replace H := bI_ H
     obtain ⟨t220, A190, H⟩ := H
     replace H : (if t220 = true then ((spec_RowOk.f k t206 24).bind fun t221 => (laws_FnRowXor.j0 k t205 t206 t211 (!t221))) else (laws_FnRowXor.j0 k t205 t206 t211 true)) = some true := H
     have A19 := Aside0.mk A190
     clear A190
     by_cases c20 : t220 = true
     ·subst c20
      have h219 := Option.some.inj (A14.out.symm.trans A19.out)
      have h218 := (show t218 = t219 by simpa using c15b0).trans h219
      have H1 : ((spec_RowOk.f k t206 24).bind fun t221 => (laws_FnRowXor.j0 k t205 t206 t211 (!t221))) = some true := by rw [if_pos rfl] at H; exact H
      clear H
      have H := H1
      clear H1
      replace H := bI_ H
      obtain ⟨t221, A210, H⟩ := H
      replace H : (laws_FnRowXor.j0 k t205 t206 t211 (!t221)) = some true := H
      have A21 := Aside0.mk A210
      clear A210
      have H' := Aside0.mk H
      clear H
      go_wp2_with (first | ((with_reducible refine gate_callee (f := 18) rfl ?_); refine goesL_ (some 21) rfl rfl Try.func18 (by kernel_rfl) rfl #[.slice Ao7 t205.length co7, .slice Ao8 t206.length co8] rfl (by (try simp only [List.map_toArray, List.map_cons, List.map_nil]); first | done | rfl | (simp only [List.length_drop, List.length_take]; rfl)) ?_; (with_reducible refine (spec_RowXor.calls k _ _ t205 _ _ t206 t214 _ ?side1 ?side2 ?side3 ?side4 A10.out).mono ?_); (case side1 => repeat (first | exact (Kd.R_reads' HO208.out).2.2 | (with_reducible refine Kd.C_alloc ?_ _) | (with_reducible refine Kd.C_drewN ?_ _) | (with_reducible refine Kd.C_drew ?_))); (case side2 => exact (Kd.R_reads' HO208.out).2.1); (case side3 => repeat (first | exact (Kd.R_reads' HO210.out).2.2 | (with_reducible refine Kd.C_alloc ?_ _) | (with_reducible refine Kd.C_drewN ?_ _) | (with_reducible refine Kd.C_drew ?_))); (case side4 => exact (Kd.R_reads' HO210.out).2.1); rintro e w22 ⟨v215, rfl, ho0, hb⟩; refine ⟨_, rfl, ?_⟩; have n0_ := Aside0.mk (Kd.R_elder' (gR HO208.out) (Kd.R_base ho0) hb); have n1_ := Aside0.mk (Kd.R_elder' (gR HO210.out) (Kd.R_base ho0) hb); have n2_ := Aside0.mk (Kd.R_elder' (gR HO213.out) (Kd.R_base ho0) hb); have n3_ := Aside0.mk (Kd.R_lower (Kd.R_new' (Kd.R_new' (Kd.R_new' ho0 (Kd.R_lt (gR HO208.out))) (Kd.R_lt (gR HO210.out))) (Kd.R_lt (gR HO213.out))) (below_size (gB HB.out))); have n4_ := Aside0.mk (below_step (gB HB.out) hb); clear HO208; clear HO210; clear HO213; clear HB; have HO208 := n0_; have HO210 := n1_; have HO213 := n2_; have HO216 := n3_; have HB := n4_; clear n0_ n1_ n2_ n3_ n4_; (try clear hb); (try clear hb2); (try clear hk); (try clear hi); (try clear ho0); obtain ⟨Ao23, co23, eo23⟩ := Kd.R_slice HO213.out; subst eo23; obtain ⟨Ao24, co24, eo24⟩ := Kd.R_slice HO216.out; subst eo24) | ((with_reducible refine gate_callee (f := 17) rfl ?_); refine goesL_ (some 22) rfl rfl Try.func17 (by kernel_rfl) rfl #[.slice Ao23 t211.length co23, .slice Ao24 t214.length co24] rfl (by (try simp only [List.map_toArray, List.map_cons, List.map_nil]); first | done | rfl | (simp only [List.length_drop, List.length_take]; rfl)) ?_; (with_reducible refine (laws_whInts.calls k _ _ t211 _ _ t214 true _ ?side1 ?side2 ?side3 ?side4 A11.out).mono ?_); (case side1 => repeat (first | exact (Kd.R_reads' HO213.out).2.2 | (with_reducible refine Kd.C_alloc ?_ _) | (with_reducible refine Kd.C_drewN ?_ _) | (with_reducible refine Kd.C_drew ?_))); (case side2 => exact (Kd.R_reads' HO213.out).2.1); (case side3 => repeat (first | exact (Kd.R_reads' HO216.out).2.2 | (with_reducible refine Kd.C_alloc ?_ _) | (with_reducible refine Kd.C_drewN ?_ _) | (with_reducible refine Kd.C_drew ?_))); (case side4 => exact (Kd.R_reads' HO216.out).2.1); rintro e w' ⟨rfl, ⟨nd, rfl⟩⟩; refine ⟨_, rfl, ?_⟩) | (go_at_call 19; (with_reducible refine (impl_RowOk.calls k _ _ t205 24 t218 _ ?side1 ?side2 A13.out).mono ?_); (case side1 => repeat (first | exact (Kd.R_reads' HO208.out).2.2 | (with_reducible refine Kd.C_alloc ?_ _) | (with_reducible refine Kd.C_drewN ?_ _) | (with_reducible refine Kd.C_drew ?_))); (case side2 => exact (Kd.R_reads' HO208.out).2.1); rintro e w' ⟨rfl, ⟨nd, rfl⟩⟩) | (go_at_call 20; (with_reducible refine (spec_RowOk.calls k _ _ t205 24 t219 _ ?side1 ?side2 A14.out).mono ?_); (case side1 => repeat (first | exact (Kd.R_reads' HO208.out).2.2 | (with_reducible refine Kd.C_alloc ?_ _) | (with_reducible refine Kd.C_drewN ?_ _) | (with_reducible refine Kd.C_drew ?_))); (case side2 => exact (Kd.R_reads' HO208.out).2.1); rintro e w' ⟨rfl, ⟨nd, rfl⟩⟩) | (go_at_call 20; (with_reducible refine (spec_RowOk.calls k _ _ t205 24 true _ ?side1 ?side2 A19.out).mono ?_); (case side1 => repeat (first | exact (Kd.R_reads' HO208.out).2.2 | (with_reducible refine Kd.C_alloc ?_ _) | (with_reducible refine Kd.C_drewN ?_ _) | (with_reducible refine Kd.C_drew ?_))); (case side2 => exact (Kd.R_reads' HO208.out).2.1); rintro e w' ⟨rfl, ⟨nd, rfl⟩⟩) | (go_at_call 20; (with_reducible refine (spec_RowOk.calls k _ _ t206 24 t221 _ ?side1 ?side2 A21.out).mono ?_); (case side1 => repeat (first | exact (Kd.R_reads' HO210.out).2.2 | (with_reducible refine Kd.C_alloc ?_ _) | (with_reducible refine Kd.C_drewN ?_ _) | (with_reducible refine Kd.C_drew ?_))); (case side2 => exact (Kd.R_reads' HO210.out).2.1); rintro e w' ⟨rfl, ⟨nd, rfl⟩⟩))
      all_goals
       go_meet
       case rel => exact ⟨_, (!t221), (by first | rfl | (simp; done) | (simp [*]; done) | (simp [wrap64]; done)), H', ⟨by first | omega | exact Nat.le_refl _⟩, ⟨by (with_reducible repeat (first | apply Kd.R_alloc | apply Kd.R_drewN | apply Kd.R_drew)); exact Kd.R_mono HO208.out (fun _ hk => ⟨hk.1.1, hk.1.2⟩)⟩, ⟨by (with_reducible repeat (first | apply Kd.R_alloc | apply Kd.R_drewN | apply Kd.R_drew)); exact Kd.R_mono HO210.out (fun _ hk => ⟨hk.1.1, hk.1.2⟩)⟩, ⟨by (with_reducible repeat (first | apply Kd.R_alloc | apply Kd.R_drewN | apply Kd.R_drew)); exact Kd.R_mono HO213.out (fun _ hk => ⟨hk.1.1.2, hk.1.2⟩)⟩, ⟨by repeat (first | (with_reducible first | exact HB.out | apply below_alloc | apply pw_below_drewN | apply below_drew1) | exact HB.out)⟩⟩
     ·replace c20 := Bool.eq_false_iff.mpr c20
      subst c20
      have h219 := Option.some.inj (A14.out.symm.trans A19.out)
      have h218 := (show t218 = t219 by simpa using c15b0).trans h219
      have H1 : (laws_FnRowXor.j0 k t205 t206 t211 true) = some true := by rw [if_neg (show ¬ (false = true) by decide)] at H; exact H
      clear H
      have H := H1
      clear H1
      have H' := Aside0.mk H
      clear H
      go_wp2_with (first | ((with_reducible refine gate_callee (f := 18) rfl ?_); refine goesL_ (some 21) rfl rfl Try.func18 (by kernel_rfl) rfl #[.slice Ao7 t205.length co7, .slice Ao8 t206.length co8] rfl (by (try simp only [List.map_toArray, List.map_cons, List.map_nil]); first | done | rfl | (simp only [List.length_drop, List.length_take]; rfl)) ?_; (with_reducible refine (spec_RowXor.calls k _ _ t205 _ _ t206 t214 _ ?side1 ?side2 ?side3 ?side4 A10.out).mono ?_); (case side1 => repeat (first | exact (Kd.R_reads' HO208.out).2.2 | (with_reducible refine Kd.C_alloc ?_ _) | (with_reducible refine Kd.C_drewN ?_ _) | (with_reducible refine Kd.C_drew ?_))); (case side2 => exact (Kd.R_reads' HO208.out).2.1); (case side3 => repeat (first | exact (Kd.R_reads' HO210.out).2.2 | (with_reducible refine Kd.C_alloc ?_ _) | (with_reducible refine Kd.C_drewN ?_ _) | (with_reducible refine Kd.C_drew ?_))); (case side4 => exact (Kd.R_reads' HO210.out).2.1); rintro e w25 ⟨v215, rfl, ho0, hb⟩; refine ⟨_, rfl, ?_⟩; have n0_ := Aside0.mk (Kd.R_elder' (gR HO208.out) (Kd.R_base ho0) hb); have n1_ := Aside0.mk (Kd.R_elder' (gR HO210.out) (Kd.R_base ho0) hb); have n2_ := Aside0.mk (Kd.R_elder' (gR HO213.out) (Kd.R_base ho0) hb); have n3_ := Aside0.mk (Kd.R_lower (Kd.R_new' (Kd.R_new' (Kd.R_new' ho0 (Kd.R_lt (gR HO208.out))) (Kd.R_lt (gR HO210.out))) (Kd.R_lt (gR HO213.out))) (below_size (gB HB.out))); have n4_ := Aside0.mk (below_step (gB HB.out) hb); clear HO208; clear HO210; clear HO213; clear HB; have HO208 := n0_; have HO210 := n1_; have HO213 := n2_; have HO216 := n3_; have HB := n4_; clear n0_ n1_ n2_ n3_ n4_; (try clear hb); (try clear hb2); (try clear hk); (try clear hi); (try clear ho0); obtain ⟨Ao26, co26, eo26⟩ := Kd.R_slice HO213.out; subst eo26; obtain ⟨Ao27, co27, eo27⟩ := Kd.R_slice HO216.out; subst eo27) | ((with_reducible refine gate_callee (f := 17) rfl ?_); refine goesL_ (some 22) rfl rfl Try.func17 (by kernel_rfl) rfl #[.slice Ao26 t211.length co26, .slice Ao27 t214.length co27] rfl (by (try simp only [List.map_toArray, List.map_cons, List.map_nil]); first | done | rfl | (simp only [List.length_drop, List.length_take]; rfl)) ?_; (with_reducible refine (laws_whInts.calls k _ _ t211 _ _ t214 true _ ?side1 ?side2 ?side3 ?side4 A11.out).mono ?_); (case side1 => repeat (first | exact (Kd.R_reads' HO213.out).2.2 | (with_reducible refine Kd.C_alloc ?_ _) | (with_reducible refine Kd.C_drewN ?_ _) | (with_reducible refine Kd.C_drew ?_))); (case side2 => exact (Kd.R_reads' HO213.out).2.1); (case side3 => repeat (first | exact (Kd.R_reads' HO216.out).2.2 | (with_reducible refine Kd.C_alloc ?_ _) | (with_reducible refine Kd.C_drewN ?_ _) | (with_reducible refine Kd.C_drew ?_))); (case side4 => exact (Kd.R_reads' HO216.out).2.1); rintro e w' ⟨rfl, ⟨nd, rfl⟩⟩; refine ⟨_, rfl, ?_⟩) | (go_at_call 19; (with_reducible refine (impl_RowOk.calls k _ _ t205 24 t218 _ ?side1 ?side2 A13.out).mono ?_); (case side1 => repeat (first | exact (Kd.R_reads' HO208.out).2.2 | (with_reducible refine Kd.C_alloc ?_ _) | (with_reducible refine Kd.C_drewN ?_ _) | (with_reducible refine Kd.C_drew ?_))); (case side2 => exact (Kd.R_reads' HO208.out).2.1); rintro e w' ⟨rfl, ⟨nd, rfl⟩⟩) | (go_at_call 20; (with_reducible refine (spec_RowOk.calls k _ _ t205 24 t219 _ ?side1 ?side2 A14.out).mono ?_); (case side1 => repeat (first | exact (Kd.R_reads' HO208.out).2.2 | (with_reducible refine Kd.C_alloc ?_ _) | (with_reducible refine Kd.C_drewN ?_ _) | (with_reducible refine Kd.C_drew ?_))); (case side2 => exact (Kd.R_reads' HO208.out).2.1); rintro e w' ⟨rfl, ⟨nd, rfl⟩⟩) | (go_at_call 20; (with_reducible refine (spec_RowOk.calls k _ _ t205 24 false _ ?side1 ?side2 A19.out).mono ?_); (case side1 => repeat (first | exact (Kd.R_reads' HO208.out).2.2 | (with_reducible refine Kd.C_alloc ?_ _) | (with_reducible refine Kd.C_drewN ?_ _) | (with_reducible refine Kd.C_drew ?_))); (case side2 => exact (Kd.R_reads' HO208.out).2.1); rintro e w' ⟨rfl, ⟨nd, rfl⟩⟩))
      all_goals
       go_meet
       case rel => exact ⟨_, (true), (by first | rfl | (simp; done) | (simp [*]; done) | (simp [wrap64]; done)), H', ⟨by first | omega | exact Nat.le_refl _⟩, ⟨by (with_reducible repeat (first | apply Kd.R_alloc | apply Kd.R_drewN | apply Kd.R_drew)); exact Kd.R_mono HO208.out (fun _ hk => ⟨hk.1.1, hk.1.2⟩)⟩, ⟨by (with_reducible repeat (first | apply Kd.R_alloc | apply Kd.R_drewN | apply Kd.R_drew)); exact Kd.R_mono HO210.out (fun _ hk => ⟨hk.1.1, hk.1.2⟩)⟩, ⟨by (with_reducible repeat (first | apply Kd.R_alloc | apply Kd.R_drewN | apply Kd.R_drew)); exact Kd.R_mono HO213.out (fun _ hk => ⟨hk.1.1.2, hk.1.2⟩)⟩, ⟨by repeat (first | (with_reducible first | exact HB.out | apply below_alloc | apply pw_below_drewN | apply below_drew1) | exact HB.out)⟩⟩
   ·replace c12 := Bool.eq_false_iff.mpr c12
    subst c12
    have H1 : (laws_FnRowXor.j0 k t205 t206 t211 true) = some true := by rw [if_neg (show ¬ (false = true) by decide)] at H; exact H
    clear H
    have H := H1
    clear H1
    have H' := Aside0.mk H
    clear H
    go_wp2_with (first | ((with_reducible refine gate_callee (f := 18) rfl ?_); refine goesL_ (some 21) rfl rfl Try.func18 (by kernel_rfl) rfl #[.slice Ao7 t205.length co7, .slice Ao8 t206.length co8] rfl (by (try simp only [List.map_toArray, List.map_cons, List.map_nil]); first | done | rfl | (simp only [List.length_drop, List.length_take]; rfl)) ?_; (with_reducible refine (spec_RowXor.calls k _ _ t205 _ _ t206 t214 _ ?side1 ?side2 ?side3 ?side4 A10.out).mono ?_); (case side1 => repeat (first | exact (Kd.R_reads' HO208.out).2.2 | (with_reducible refine Kd.C_alloc ?_ _) | (with_reducible refine Kd.C_drewN ?_ _) | (with_reducible refine Kd.C_drew ?_))); (case side2 => exact (Kd.R_reads' HO208.out).2.1); (case side3 => repeat (first | exact (Kd.R_reads' HO210.out).2.2 | (with_reducible refine Kd.C_alloc ?_ _) | (with_reducible refine Kd.C_drewN ?_ _) | (with_reducible refine Kd.C_drew ?_))); (case side4 => exact (Kd.R_reads' HO210.out).2.1); rintro e w28 ⟨v215, rfl, ho0, hb⟩; refine ⟨_, rfl, ?_⟩; have n0_ := Aside0.mk (Kd.R_elder' (gR HO208.out) (Kd.R_base ho0) hb); have n1_ := Aside0.mk (Kd.R_elder' (gR HO210.out) (Kd.R_base ho0) hb); have n2_ := Aside0.mk (Kd.R_elder' (gR HO213.out) (Kd.R_base ho0) hb); have n3_ := Aside0.mk (Kd.R_lower (Kd.R_new' (Kd.R_new' (Kd.R_new' ho0 (Kd.R_lt (gR HO208.out))) (Kd.R_lt (gR HO210.out))) (Kd.R_lt (gR HO213.out))) (below_size (gB HB.out))); have n4_ := Aside0.mk (below_step (gB HB.out) hb); clear HO208; clear HO210; clear HO213; clear HB; have HO208 := n0_; have HO210 := n1_; have HO213 := n2_; have HO216 := n3_; have HB := n4_; clear n0_ n1_ n2_ n3_ n4_; (try clear hb); (try clear hb2); (try clear hk); (try clear hi); (try clear ho0); obtain ⟨Ao29, co29, eo29⟩ := Kd.R_slice HO213.out; subst eo29; obtain ⟨Ao30, co30, eo30⟩ := Kd.R_slice HO216.out; subst eo30) | ((with_reducible refine gate_callee (f := 17) rfl ?_); refine goesL_ (some 22) rfl rfl Try.func17 (by kernel_rfl) rfl #[.slice Ao29 t211.length co29, .slice Ao30 t214.length co30] rfl (by (try simp only [List.map_toArray, List.map_cons, List.map_nil]); first | done | rfl | (simp only [List.length_drop, List.length_take]; rfl)) ?_; (with_reducible refine (laws_whInts.calls k _ _ t211 _ _ t214 false _ ?side1 ?side2 ?side3 ?side4 A11.out).mono ?_); (case side1 => repeat (first | exact (Kd.R_reads' HO213.out).2.2 | (with_reducible refine Kd.C_alloc ?_ _) | (with_reducible refine Kd.C_drewN ?_ _) | (with_reducible refine Kd.C_drew ?_))); (case side2 => exact (Kd.R_reads' HO213.out).2.1); (case side3 => repeat (first | exact (Kd.R_reads' HO216.out).2.2 | (with_reducible refine Kd.C_alloc ?_ _) | (with_reducible refine Kd.C_drewN ?_ _) | (with_reducible refine Kd.C_drew ?_))); (case side4 => exact (Kd.R_reads' HO216.out).2.1); rintro e w' ⟨rfl, ⟨nd, rfl⟩⟩; refine ⟨_, rfl, ?_⟩))
    all_goals
     go_meet
     case rel => exact ⟨_, (true), (by first | rfl | (simp; done) | (simp [*]; done) | (simp [wrap64]; done)), H', ⟨by first | omega | exact Nat.le_refl _⟩, ⟨by (with_reducible repeat (first | apply Kd.R_alloc | apply Kd.R_drewN | apply Kd.R_drew)); exact Kd.R_mono HO208.out (fun _ hk => ⟨hk.1.1, hk.1.2⟩)⟩, ⟨by (with_reducible repeat (first | apply Kd.R_alloc | apply Kd.R_drewN | apply Kd.R_drew)); exact Kd.R_mono HO210.out (fun _ hk => ⟨hk.1.1, hk.1.2⟩)⟩, ⟨by (with_reducible repeat (first | apply Kd.R_alloc | apply Kd.R_drewN | apply Kd.R_drew)); exact Kd.R_mono HO213.out (fun _ hk => ⟨hk.1.1.2, hk.1.2⟩)⟩, ⟨by repeat (first | (with_reducible first | exact HB.out | apply below_alloc | apply pw_below_drewN | apply below_drew1) | exact HB.out)⟩⟩
  case rest =>
   clear HC5
   try clear c1
   try clear c2
   try clear c2b0
   try clear c2b1
   try clear p2
   try clear c3
   try clear c12
   try clear c15
   try clear c15b0
   try clear c15b1
   try clear c15b2
   try clear c16
   try clear c17
   try clear c18
   try clear c20
   obtain ⟨kq, x40_4, rfl, HA, HJ4, HO_3, HO_4, HO_5, HB⟩ := hcut
   cases kq with
   | zero => exact absurd HA.out (by simp [laws_FnRowXor.j0])
   | succ kj4 =>
    have H := HA.out
    clear HA
    simp only [laws_FnRowXor.j0] at H
    by_cases c31 : x40_4 = true
    ·subst c31
     have H1 : ((spec_RowXor.f kj4 t205 t206).bind fun t222 => ((laws_whInts.f kj4 t211 t222).bind fun t225 => (some t225))) = some true := by rw [if_pos rfl] at H; exact H
     clear H
     have H := H1
     clear H1
     replace H := bI_ H
     obtain ⟨t222, A320, H⟩ := H
     replace H : ((laws_whInts.f kj4 t211 t222).bind fun t225 => (some t225)) = some true := H
     have A32 := Aside0.mk A320
     clear A320
     replace H := bI_ H
     obtain ⟨t225, A330, H⟩ := H
     replace H : (some t225) = some true := H
     have A33 := Aside0.mk A330
     clear A330
     have hres_ := Option.some.inj H
     clear H
     go_wp2_with (first | ((with_reducible refine gate_callee (f := 18) rfl ?_); refine goesL_ (some 44) rfl rfl Try.func18 (by kernel_rfl) rfl #[.slice Ao7 t205.length co7, .slice Ao8 t206.length co8] rfl (by (try simp only [List.map_toArray, List.map_cons, List.map_nil]); first | done | rfl | (simp only [List.length_drop, List.length_take]; rfl)) ?_; (with_reducible refine (spec_RowXor.calls kj4 _ _ t205 _ _ t206 t222 _ ?side1 ?side2 ?side3 ?side4 A32.out).mono ?_); (case side1 => repeat (first | exact (Kd.R_reads' HO_3.out).2.2 | (with_reducible refine Kd.C_alloc ?_ _) | (with_reducible refine Kd.C_drewN ?_ _) | (with_reducible refine Kd.C_drew ?_))); (case side2 => exact (Kd.R_reads' HO_3.out).2.1); (case side3 => repeat (first | exact (Kd.R_reads' HO_4.out).2.2 | (with_reducible refine Kd.C_alloc ?_ _) | (with_reducible refine Kd.C_drewN ?_ _) | (with_reducible refine Kd.C_drew ?_))); (case side4 => exact (Kd.R_reads' HO_4.out).2.1); rintro e w34 ⟨v223, rfl, ho0, hb⟩; refine ⟨_, rfl, ?_⟩; have n0_ := Aside0.mk (Kd.R_elder' (gR HO_3.out) (Kd.R_base ho0) hb); have n1_ := Aside0.mk (Kd.R_elder' (gR HO_4.out) (Kd.R_base ho0) hb); have n2_ := Aside0.mk (Kd.R_elder' (gR HO_5.out) (Kd.R_base ho0) hb); have n3_ := Aside0.mk (Kd.R_lower (Kd.R_new' (Kd.R_new' (Kd.R_new' ho0 (Kd.R_lt (gR HO_3.out))) (Kd.R_lt (gR HO_4.out))) (Kd.R_lt (gR HO_5.out))) (below_size (gB HB.out))); have n4_ := Aside0.mk (below_step (gB HB.out) hb); clear HO_3; clear HO_4; clear HO_5; clear HB; have HO_3 := n0_; have HO_4 := n1_; have HO_5 := n2_; have HO224 := n3_; have HB := n4_; clear n0_ n1_ n2_ n3_ n4_; (try clear hb); (try clear hb2); (try clear hk); (try clear hi); (try clear ho0); obtain ⟨Ao35, co35, eo35⟩ := Kd.R_slice HO_5.out; subst eo35; obtain ⟨Ao36, co36, eo36⟩ := Kd.R_slice HO224.out; subst eo36) | ((with_reducible refine gate_callee (f := 17) rfl ?_); refine goesL_ (some 45) rfl rfl Try.func17 (by kernel_rfl) rfl #[.slice Ao35 t211.length co35, .slice Ao36 t222.length co36] rfl (by (try simp only [List.map_toArray, List.map_cons, List.map_nil]); first | done | rfl | (simp only [List.length_drop, List.length_take]; rfl)) ?_; (with_reducible refine (laws_whInts.calls kj4 _ _ t211 _ _ t222 t225 _ ?side1 ?side2 ?side3 ?side4 A33.out).mono ?_); (case side1 => repeat (first | exact (Kd.R_reads' HO_5.out).2.2 | (with_reducible refine Kd.C_alloc ?_ _) | (with_reducible refine Kd.C_drewN ?_ _) | (with_reducible refine Kd.C_drew ?_))); (case side2 => exact (Kd.R_reads' HO_5.out).2.1); (case side3 => repeat (first | exact (Kd.R_reads' HO224.out).2.2 | (with_reducible refine Kd.C_alloc ?_ _) | (with_reducible refine Kd.C_drewN ?_ _) | (with_reducible refine Kd.C_drew ?_))); (case side4 => exact (Kd.R_reads' HO224.out).2.1); rintro e w' ⟨rfl, ⟨nd, rfl⟩⟩; refine ⟨_, rfl, ?_⟩))
     go_ret
     exact ⟨by first | rfl | (simp [errW_none, errW_some] <;> rfl) | (simp [*, errW_none, errW_some] <;> rfl), by repeat (first | (with_reducible first | exact HB.out | apply below_alloc | apply pw_below_drewN | apply below_drew1) | exact HB.out)⟩
    ·replace c31 := Bool.eq_false_iff.mpr c31
     subst c31
     have H1 : (laws_FnRowXor.l0 kj4 t205 t206 t211 0) = some true := by rw [if_neg (show ¬ (false = true) by decide)] at H; exact H
     clear H
     have H := H1
     clear H1
     have H' := Aside0.mk H
     clear H
     go_wp2
     go_loopg [6] kj4 (fun kq v6 w' => ∃ (x6_2 : Int), v6 = .int .i64 x6_2 ∧ Aside0 (laws_FnRowXor.l0 kq t205 t206 t211 x6_2 = some true) ∧ Aside0 (kq ≤ kj4) ∧ Aside0 (Kd.R (Kd.int .i64) 3 w' w.heap.size (fun k_ => some k_ ≠ ((.slice Ao8 t206.length co8) : Value).ownBlock ∧ some k_ ≠ (v212 : Value).ownBlock) (.slice Ao7 t205.length co7) t205) ∧ Aside0 (Kd.R (Kd.int .i64) 3 w' w.heap.size (fun k_ => some k_ ≠ ((.slice Ao7 t205.length co7) : Value).ownBlock ∧ some k_ ≠ (v212 : Value).ownBlock) (.slice Ao8 t206.length co8) t206) ∧ Aside0 (Kd.R (Kd.int .i64) 3 w' w.heap.size (fun k_ => some k_ ≠ ((.slice Ao7 t205.length co7) : Value).ownBlock ∧ some k_ ≠ ((.slice Ao8 t206.length co8) : Value).ownBlock) v212 t211) ∧ Aside0 (Below w.heap.size w w'))
     case atStart => exact ⟨(0), (by first | rfl | (simp; done) | (simp [*]; done) | (simp [wrap64]; done)), H', ⟨Nat.le_refl _⟩, ⟨by (with_reducible repeat (first | apply Kd.R_alloc | apply Kd.R_drewN | apply Kd.R_drew)); exact HO_3.out⟩, ⟨by (with_reducible repeat (first | apply Kd.R_alloc | apply Kd.R_drewN | apply Kd.R_drew)); exact HO_4.out⟩, ⟨by (with_reducible repeat (first | apply Kd.R_alloc | apply Kd.R_drewN | apply Kd.R_drew)); exact HO_5.out⟩, ⟨by repeat (first | (with_reducible first | exact HB.out | apply below_alloc | apply pw_below_drewN | apply below_drew1) | exact HB.out)⟩⟩
     case round =>
      clear H'
      try clear c1
      try clear c2
      try clear c2b0
      try clear c2b1
      try clear p2
      try clear c3
      try clear c12
      try clear c15
      try clear c15b0
      try clear c15b1
      try clear c15b2
      try clear c16
      try clear c17
      try clear c18
      try clear c20
      try clear c31
      try clear p2
      obtain ⟨x6_2, rfl, HA, HK2, HO_3, HO_4, HO_5, HB⟩ := hrel
      cases gk with
      | zero => exact absurd HA.out (by simp [laws_FnRowXor.l0])
      | succ k2 =>
       have H := HA.out
       clear HA
       simp only [laws_FnRowXor.l0] at H
       by_cases c37 : x6_2 < 24
       ·rw [if_pos c37] at H
        have c37b0 : decide (x6_2 < 24) = true := decide_eq_true c37
        clear c37
        replace H := bI_ H
        obtain ⟨t226, A380, H⟩ := H
        replace H : ((laws_whHas.f k2 t205 x6_2).bind fun t227 => ((laws_whHas.f k2 t206 x6_2).bind fun t228 => (if (t226 != (t227 != t228)) = true then (some false) else (laws_FnRowXor.l0 k2 t205 t206 t211 (wrap64 (x6_2 + 1)))))) = some true := H
        have A38 := Aside0.mk A380
        clear A380
        replace H := bI_ H
        obtain ⟨t227, A390, H⟩ := H
        replace H : ((laws_whHas.f k2 t206 x6_2).bind fun t228 => (if (t226 != (t227 != t228)) = true then (some false) else (laws_FnRowXor.l0 k2 t205 t206 t211 (wrap64 (x6_2 + 1))))) = some true := H
        have A39 := Aside0.mk A390
        clear A390
        replace H := bI_ H
        obtain ⟨t228, A400, H⟩ := H
        replace H : (if (t226 != (t227 != t228)) = true then (some false) else (laws_FnRowXor.l0 k2 t205 t206 t211 (wrap64 (x6_2 + 1)))) = some true := H
        have A40 := Aside0.mk A400
        clear A400
        by_cases c41 : (t226 != (t227 != t228)) = true
        ·rw [if_pos c41] at H
         have c41b0 : (t226 != (t227 != t228)) = true := c41
         (try (have c41b1 : decide (t226 = (t227 != t228)) = false := by simpa using c41))
         (try (have c41b2 : (t226 == (t227 != t228)) = false := by simpa using c41))
         (try (have c41b3 : ¬ (t226 = (t227 != t228)) := by simpa using c41))
         clear c41
         exact absurd H (by simp)
        ·rw [if_neg c41] at H
         have c41b0 : (t226 != (t227 != t228)) = false := by simpa using c41
         have c41b4 : (t226 == (!(t227 == t228))) = true := nest3_ c41b0
         (try (have c41b1 : decide (t226 = (t227 != t228)) = true := by simpa using c41))
         (try (have c41b2 : (t226 == (t227 != t228)) = true := by simpa using c41))
         clear c41
         have H' := Aside0.mk H
         clear H
         obtain ⟨Ao42, co42, eo42⟩ := Kd.R_slice HO_5.out
         subst eo42
         go_wp2_with (first | ((with_reducible refine gate_callee (f := 21) rfl ?_); refine goesL_ (some 52) rfl rfl Try.func21 (by kernel_rfl) rfl #[.slice Ao42 t211.length co42, .int .i64 x6_2] rfl (by (try simp only [List.map_toArray, List.map_cons, List.map_nil]); first | done | rfl | (simp only [List.length_drop, List.length_take]; rfl)) ?_; (with_reducible refine (laws_whHas.calls k2 _ _ t211 x6_2 t226 _ ?side1 ?side2 A38.out).mono ?_); (case side1 => repeat (first | exact (Kd.R_reads' HO_5.out).2.2 | (with_reducible refine Kd.C_alloc ?_ _) | (with_reducible refine Kd.C_drewN ?_ _) | (with_reducible refine Kd.C_drew ?_))); (case side2 => exact (Kd.R_reads' HO_5.out).2.1); rintro e w' ⟨rfl, ⟨nd, rfl⟩⟩; refine ⟨_, rfl, ?_⟩) | ((with_reducible refine gate_callee (f := 21) rfl ?_); refine goesL_ (some 55) rfl rfl Try.func21 (by kernel_rfl) rfl #[.slice Ao7 t205.length co7, .int .i64 x6_2] rfl (by (try simp only [List.map_toArray, List.map_cons, List.map_nil]); first | done | rfl | (simp only [List.length_drop, List.length_take]; rfl)) ?_; (with_reducible refine (laws_whHas.calls k2 _ _ t205 x6_2 t227 _ ?side1 ?side2 A39.out).mono ?_); (case side1 => repeat (first | exact (Kd.R_reads' HO_3.out).2.2 | (with_reducible refine Kd.C_alloc ?_ _) | (with_reducible refine Kd.C_drewN ?_ _) | (with_reducible refine Kd.C_drew ?_))); (case side2 => exact (Kd.R_reads' HO_3.out).2.1); rintro e w' ⟨rfl, ⟨nd, rfl⟩⟩; refine ⟨_, rfl, ?_⟩) | ((with_reducible refine gate_callee (f := 21) rfl ?_); refine goesL_ (some 58) rfl rfl Try.func21 (by kernel_rfl) rfl #[.slice Ao8 t206.length co8, .int .i64 x6_2] rfl (by (try simp only [List.map_toArray, List.map_cons, List.map_nil]); first | done | rfl | (simp only [List.length_drop, List.length_take]; rfl)) ?_; (with_reducible refine (laws_whHas.calls k2 _ _ t206 x6_2 t228 _ ?side1 ?side2 A40.out).mono ?_); (case side1 => repeat (first | exact (Kd.R_reads' HO_4.out).2.2 | (with_reducible refine Kd.C_alloc ?_ _) | (with_reducible refine Kd.C_drewN ?_ _) | (with_reducible refine Kd.C_drew ?_))); (case side2 => exact (Kd.R_reads' HO_4.out).2.1); rintro e w' ⟨rfl, ⟨nd, rfl⟩⟩; refine ⟨_, rfl, ?_⟩))
         go_roundg k2
         case measure => have := HJ4.out; have := HK2.out; omega
         case rel => exact ⟨(wrap64 (x6_2 + 1)), (by first | rfl | (simp; done) | (simp [*]; done) | (simp [wrap64]; done)), H', ⟨by have := HJ4.out; have := HK2.out; omega⟩, ⟨by (with_reducible repeat (first | apply Kd.R_alloc | apply Kd.R_drewN | apply Kd.R_drew)); exact HO_3.out⟩, ⟨by (with_reducible repeat (first | apply Kd.R_alloc | apply Kd.R_drewN | apply Kd.R_drew)); exact HO_4.out⟩, ⟨by (with_reducible repeat (first | apply Kd.R_alloc | apply Kd.R_drewN | apply Kd.R_drew)); exact HO_5.out⟩, ⟨by repeat (first | (with_reducible first | exact HB.out | apply below_alloc | apply pw_below_drewN | apply below_drew1) | exact HB.out)⟩⟩
       ·rw [if_neg c37] at H
        have c37b0 : decide (x6_2 < 24) = false := decide_eq_false c37
        clear c37
        replace H := bI_ H
        obtain ⟨t229, A430, H⟩ := H
        replace H : (if t229 = true then ((impl_RowXor.f k2 t211 t206).bind fun t230 => ((laws_whInts.f k2 t230 t205).bind fun t233 => (if t233 = true then ((impl_RowXor.f k2 t206 t205).bind fun t234 => ((laws_whInts.f k2 t234 t211).bind fun t237 => (some t237))) else (some false)))) else (some false)) = some true := H
        have A43 := Aside0.mk A430
        clear A430
        by_cases c44 : t229 = true
        ·subst c44
         have H1 : ((impl_RowXor.f k2 t211 t206).bind fun t230 => ((laws_whInts.f k2 t230 t205).bind fun t233 => (if t233 = true then ((impl_RowXor.f k2 t206 t205).bind fun t234 => ((laws_whInts.f k2 t234 t211).bind fun t237 => (some t237))) else (some false)))) = some true := by rw [if_pos rfl] at H; exact H
         clear H
         have H := H1
         clear H1
         replace H := bI_ H
         obtain ⟨t230, A450, H⟩ := H
         replace H : ((laws_whInts.f k2 t230 t205).bind fun t233 => (if t233 = true then ((impl_RowXor.f k2 t206 t205).bind fun t234 => ((laws_whInts.f k2 t234 t211).bind fun t237 => (some t237))) else (some false))) = some true := H
         have A45 := Aside0.mk A450
         clear A450
         replace H := bI_ H
         obtain ⟨t233, A460, H⟩ := H
         replace H : (if t233 = true then ((impl_RowXor.f k2 t206 t205).bind fun t234 => ((laws_whInts.f k2 t234 t211).bind fun t237 => (some t237))) else (some false)) = some true := H
         have A46 := Aside0.mk A460
         clear A460
         by_cases c47 : t233 = true
         ·subst c47
          have H1 : ((impl_RowXor.f k2 t206 t205).bind fun t234 => ((laws_whInts.f k2 t234 t211).bind fun t237 => (some t237))) = some true := by rw [if_pos rfl] at H; exact H
          clear H
          have H := H1
          clear H1
          replace H := bI_ H
          obtain ⟨t234, A480, H⟩ := H
          replace H : ((laws_whInts.f k2 t234 t211).bind fun t237 => (some t237)) = some true := H
          have A48 := Aside0.mk A480
          clear A480
          replace H := bI_ H
          obtain ⟨t237, A490, H⟩ := H
          replace H : (some t237) = some true := H
          have A49 := Aside0.mk A490
          clear A490
          have hres_ := Option.some.inj H
          clear H
          obtain ⟨Ao50, co50, eo50⟩ := Kd.R_slice HO_5.out
          subst eo50
          go_wp2_with (first | ((with_reducible refine gate_callee (f := 19) rfl ?_); refine goesL_ (some 62) rfl rfl Try.func19 (by kernel_rfl) rfl #[.slice Ao50 t211.length co50, .int .i64 24] rfl (by (try simp only [List.map_toArray, List.map_cons, List.map_nil]); first | done | rfl | (simp only [List.length_drop, List.length_take]; rfl)) ?_; (with_reducible refine (impl_RowOk.calls k2 _ _ t211 24 true _ ?side1 ?side2 A43.out).mono ?_); (case side1 => repeat (first | exact (Kd.R_reads' HO_5.out).2.2 | (with_reducible refine Kd.C_alloc ?_ _) | (with_reducible refine Kd.C_drewN ?_ _) | (with_reducible refine Kd.C_drew ?_))); (case side2 => exact (Kd.R_reads' HO_5.out).2.1); rintro e w' ⟨rfl, ⟨nd, rfl⟩⟩; refine ⟨_, rfl, ?_⟩) | (go_at_call 16; (with_reducible refine (impl_RowXor.calls k2 _ _ t211 _ _ t206 t230 _ ?side1 ?side2 ?side3 ?side4 A45.out).mono ?_); (case side1 => repeat (first | exact (Kd.R_reads' HO_5.out).2.2 | (with_reducible refine Kd.C_alloc ?_ _) | (with_reducible refine Kd.C_drewN ?_ _) | (with_reducible refine Kd.C_drew ?_))); (case side2 => exact (Kd.R_reads' HO_5.out).2.1); (case side3 => repeat (first | exact (Kd.R_reads' HO_4.out).2.2 | (with_reducible refine Kd.C_alloc ?_ _) | (with_reducible refine Kd.C_drewN ?_ _) | (with_reducible refine Kd.C_drew ?_))); (case side4 => exact (Kd.R_reads' HO_4.out).2.1); rintro e w51 ⟨v231, rfl, ho0, hb⟩; have n0_ := Aside0.mk (Kd.R_elder' (gR HO_3.out) (Kd.R_base ho0) hb); have n1_ := Aside0.mk (Kd.R_elder' (gR HO_4.out) (Kd.R_base ho0) hb); have n2_ := Aside0.mk (Kd.R_elder' (gR HO_5.out) (Kd.R_base ho0) hb); have n3_ := Aside0.mk (Kd.R_lower (Kd.R_new' (Kd.R_new' (Kd.R_new' ho0 (Kd.R_lt (gR HO_3.out))) (Kd.R_lt (gR HO_4.out))) (Kd.R_lt (gR HO_5.out))) (below_size (gB HB.out))); have n4_ := Aside0.mk (below_step (gB HB.out) hb); clear HO_3; clear HO_4; clear HO_5; clear HB; have HO_3 := n0_; have HO_4 := n1_; have HO_5 := n2_; have HO232 := n3_; have HB := n4_; clear n0_ n1_ n2_ n3_ n4_; (try clear hb); (try clear hb2); (try clear hk); (try clear hi); (try clear ho0); obtain ⟨Ao52, co52, eo52⟩ := Kd.R_slice HO232.out; subst eo52) | (go_at_call 17; (with_reducible refine (laws_whInts.calls k2 _ _ t230 _ _ t205 true _ ?side1 ?side2 ?side3 ?side4 A46.out).mono ?_); (case side1 => repeat (first | exact (Kd.R_reads' HO232.out).2.2 | (with_reducible refine Kd.C_alloc ?_ _) | (with_reducible refine Kd.C_drewN ?_ _) | (with_reducible refine Kd.C_drew ?_))); (case side2 => exact (Kd.R_reads' HO232.out).2.1); (case side3 => repeat (first | exact (Kd.R_reads' HO_3.out).2.2 | (with_reducible refine Kd.C_alloc ?_ _) | (with_reducible refine Kd.C_drewN ?_ _) | (with_reducible refine Kd.C_drew ?_))); (case side4 => exact (Kd.R_reads' HO_3.out).2.1); rintro e w' ⟨rfl, ⟨nd, rfl⟩⟩) | (go_at_call 16; (with_reducible refine (impl_RowXor.calls k2 _ _ t206 _ _ t205 t234 _ ?side1 ?side2 ?side3 ?side4 A48.out).mono ?_); (case side1 => repeat (first | exact (Kd.R_reads' HO_4.out).2.2 | (with_reducible refine Kd.C_alloc ?_ _) | (with_reducible refine Kd.C_drewN ?_ _) | (with_reducible refine Kd.C_drew ?_))); (case side2 => exact (Kd.R_reads' HO_4.out).2.1); (case side3 => repeat (first | exact (Kd.R_reads' HO_3.out).2.2 | (with_reducible refine Kd.C_alloc ?_ _) | (with_reducible refine Kd.C_drewN ?_ _) | (with_reducible refine Kd.C_drew ?_))); (case side4 => exact (Kd.R_reads' HO_3.out).2.1); rintro e w53 ⟨v235, rfl, ho0, hb⟩; have n0_ := Aside0.mk (Kd.R_elder' (gR HO_3.out) (Kd.R_base ho0) hb); have n1_ := Aside0.mk (Kd.R_elder' (gR HO_4.out) (Kd.R_base ho0) hb); have n2_ := Aside0.mk (Kd.R_elder' (gR HO_5.out) (Kd.R_base ho0) hb); have n3_ := Aside0.mk (Kd.R_elder' (gR HO232.out) (Kd.R_base ho0) hb); have n4_ := Aside0.mk (Kd.R_lower (Kd.R_new' (Kd.R_new' (Kd.R_new' (Kd.R_new' ho0 (Kd.R_lt (gR HO_3.out))) (Kd.R_lt (gR HO_4.out))) (Kd.R_lt (gR HO_5.out))) (Kd.R_lt (gR HO232.out))) (below_size (gB HB.out))); have n5_ := Aside0.mk (below_step (gB HB.out) hb); clear HO_3; clear HO_4; clear HO_5; clear HO232; clear HB; have HO_3 := n0_; have HO_4 := n1_; have HO_5 := n2_; have HO232 := n3_; have HO236 := n4_; have HB := n5_; clear n0_ n1_ n2_ n3_ n4_ n5_; (try clear hb); (try clear hb2); (try clear hk); (try clear hi); (try clear ho0); obtain ⟨Ao54, co54, eo54⟩ := Kd.R_slice HO236.out; subst eo54) | (go_at_call 17; (with_reducible refine (laws_whInts.calls k2 _ _ t234 _ _ t211 t237 _ ?side1 ?side2 ?side3 ?side4 A49.out).mono ?_); (case side1 => repeat (first | exact (Kd.R_reads' HO236.out).2.2 | (with_reducible refine Kd.C_alloc ?_ _) | (with_reducible refine Kd.C_drewN ?_ _) | (with_reducible refine Kd.C_drew ?_))); (case side2 => exact (Kd.R_reads' HO236.out).2.1); (case side3 => repeat (first | exact (Kd.R_reads' HO_5.out).2.2 | (with_reducible refine Kd.C_alloc ?_ _) | (with_reducible refine Kd.C_drewN ?_ _) | (with_reducible refine Kd.C_drew ?_))); (case side4 => exact (Kd.R_reads' HO_5.out).2.1); rintro e w' ⟨rfl, ⟨nd, rfl⟩⟩))
          go_ret
          exact ⟨by first | rfl | (simp [errW_none, errW_some] <;> rfl) | (simp [*, errW_none, errW_some] <;> rfl), by repeat (first | (with_reducible first | exact HB.out | apply below_alloc | apply pw_below_drewN | apply below_drew1) | exact HB.out)⟩
         ·replace c47 := Bool.eq_false_iff.mpr c47
          subst c47
          have H1 : (some false) = some true := by rw [if_neg (show ¬ (false = true) by decide)] at H; exact H
          clear H
          have H := H1
          clear H1
          exact absurd H (by simp)
        ·replace c44 := Bool.eq_false_iff.mpr c44
         subst c44
         have H1 : (some false) = some true := by rw [if_neg (show ¬ (false = true) by decide)] at H; exact H
         clear H
         have H := H1
         clear H1
         exact absurd H (by simp)

/-- THE ONE PURE STATEMENT of laws_FnRowXor: yours. -/
def laws_FnRowXor.Pure : Prop := ∀ (l0 : List Int), l0.length ≤ maxLen → l0.length * 1 ≤ 140737488351232 → (∀ x ∈ l0, (Lit.int .u8 x).wf = true) → ∃ k, laws_FnRowXor.f k l0 = some true
theorem laws_FnRowXor.walk (P : laws_FnRowXor.Pure) (a0 : Option Addr) (len0 cap0 : Nat) (z0 : List Int) (w : World) (w0 : (a0 = none ∧ len0 = 0 ∧ cap0 = 0 ∧ z0 = []) ∨ ∃ x, a0 = some x ∧ len0 ≤ cap0 ∧ cap0 ≤ maxLen ∧ z0.length = cap0 ∧ (∀ i, i < z0.length → w.cell? (x.add i) = some (.int .u8 (z0.getD i 0))) ∧ ∀ n ∈ z0, (Lit.int .u8 n).wf = true) (y0 : len0 * 1 ≤ 140737488351232) :
 Calls Try.prog 3 #[.slice a0 len0 cap0] w fun e w' => e = .returned (.bool true) ∧ Below w.heap.size w w' := by
 obtain ⟨l0, rfl, hr0, hm0, hw0, hc0⟩ := ReadsInt.ofRowC w0
 obtain ⟨k, h⟩ := P l0 hm0 y0 hw0
 refine (laws_FnRowXor.calls k _ _ l0 w (Kd.C_of_reads (d := (0 : Int)) (h1 := fun _ => rfl) hr0) hc0 h).mono ?_
 rintro e w' ⟨rfl, hd⟩
 exact ⟨rfl, hd⟩

end Go.Proofs.Ytaeeickboakmgaa.X
