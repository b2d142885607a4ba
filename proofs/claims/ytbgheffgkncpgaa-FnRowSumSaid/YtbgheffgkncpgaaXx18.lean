/- Printed for this claim by the session's program (the kit's printer, several laws in one place): the functions that the law reaches, each as a plain Lean function, and the proof that the Go code comes to its answers. Conditions: none beside those that each theorem states. -/
import Derived.Test.YtbgheffgkncpgaaXx0
import Derived.Test.YtbgheffgkncpgaaXx3
import Derived.Test.YtbgheffgkncpgaaXx11
import Derived.Test.YtbgheffgkncpgaaXx15
import Derived.Test.YtbgheffgkncpgaaXx16
import Derived.Test.YtbgheffgkncpgaaWAll
namespace Go.Proofs.Ytbgheffgkncpgaa.X
open Go.RowKit Go.Proofs.YtbgheffgkncpgaaW.PrintWords Go.Proofs.YtbgheffgkncpgaaW.PrintLast Go.Proofs.YtbgheffgkncpgaaW.PrintStep Go.Proofs.YtbgheffgkncpgaaW.PrintMore
attribute [local go_sem] max2_int min2_int max_two min_two max_three min_three max_four min_four   -- for this text's walks alone
set_option linter.unusedVariables false
set_option linter.unusedSimpArgs false

/-! ### laws_FnRowSum: function 6 -/
mutual
def laws_FnRowSum.j0 : Nat → List Int → List Int → Bool → Option (Bool)
 | 0, _, _, _ => none
 | k + 1, x0, x1, x26 => if x26 = true then (some true) else ((spec_DrawRowSum.f k x0).bind fun bt301 => ((spec_DrawRowSum.f k x1).bind fun bt307 => ((impl_RowSum.f k bt301.1 bt301.2).bind fun bt313 => ((spec_RowSum.f k bt301.1 bt301.2).bind fun bt315 => (if bt313.1.toList = bt315.1.toList then (if (bt313.2 != bt315.2) = true then (laws_FnRowSum.j1 k bt301.1 bt301.2 bt307.2 bt313.1 bt313.2 bt315.1 bt315.2 true) else (laws_FnRowSum.j1 k bt301.1 bt301.2 bt307.2 bt313.1 bt313.2 bt315.1 bt315.2 (!bt313.2))) else (laws_FnRowSum.j1 k bt301.1 bt301.2 bt307.2 bt313.1 bt313.2 bt315.1 bt315.2 true))))))
def laws_FnRowSum.j1 : Nat → List ByteArray → List Int → List Int → ByteArray → Bool → ByteArray → Bool → Bool → Option (Bool)
 | 0, _, _, _, _, _, _, _, _ => none
 | k + 1, x5, x6, x8, x9, x10, x11, x12, x60 => if x60 = true then (if x9.toList = x11.toList then (some (x10 == x12)) else (some false)) else ((impl_RowSum.f k x5 x8).bind fun bt317 => (if bt317.2 = true then ((impl_RowXor.f k x6 x8).bind fun t319 => ((impl_RowSum.f k x5 t319).bind fun bt322 => ((impl_BlockXor.f x9 bt317.1).bind fun bt324 => (if bt322.2 = true then (if bt324.2 = true then (some (bt322.1.toList == bt324.1.toList)) else (some false)) else (some false))))) else (some (bt317.1.toList == ([] : List UInt8)))))
end
def laws_FnRowSum.f (k : Nat) (l0 : List Int) (l1 : List Int) : Option (Bool) := if (l0.length : Int) > 1048576 then (laws_FnRowSum.j0 k l0 l1 true) else (laws_FnRowSum.j0 k l0 l1 (decide ((l1.length : Int) > 1048576)))
theorem laws_FnRowSum.mono_l : ∀ k, (∀ y0 y1 y2, LeO (laws_FnRowSum.j0 k y0 y1 y2) (laws_FnRowSum.j0 (k + 1) y0 y1 y2)) ∧ (∀ y0 y1 y2 y3 y4 y5 y6 y7, LeO (laws_FnRowSum.j1 k y0 y1 y2 y3 y4 y5 y6 y7) (laws_FnRowSum.j1 (k + 1) y0 y1 y2 y3 y4 y5 y6 y7))
 | 0 => ⟨fun _ _ _ r h => by simp [laws_FnRowSum.j0] at h, fun _ _ _ _ _ _ _ _ r h => by simp [laws_FnRowSum.j1] at h⟩
 | k + 1 => by
  obtain ⟨ih0, ih1⟩ := laws_FnRowSum.mono_l k
  refine ⟨?_, ?_⟩
  ·intro y0 y1 y2
   unfold laws_FnRowSum.j0
   repeat' first
   | (with_reducible exact ih0 _ _ _)
   | (with_reducible exact ih1 _ _ _ _ _ _ _ _)
   | (with_reducible exact impl_RowSum.mono _ _ _)
   | (with_reducible exact impl_RowXor.mono _ _ _)
   | (with_reducible exact spec_DrawRowSum.mono _ _)
   | (with_reducible exact spec_RowSum.mono _ _ _)
   | (with_reducible exact LeO.refl _)
   | (with_reducible exact LeO.none _)
   | (with_reducible refine LeO.ite ?_ ?_)
   | (with_reducible refine LeO.bind ?_ (fun _ => ?_))
   | exact ih0 _ _ _
   | exact ih1 _ _ _ _ _ _ _ _
   | exact impl_RowSum.mono _ _ _
   | exact impl_RowXor.mono _ _ _
   | exact spec_DrawRowSum.mono _ _
   | exact spec_RowSum.mono _ _ _
   | exact LeO.none _
   | refine LeO.ite ?_ ?_
   | refine LeO.bind ?_ (fun _ => ?_)
  ·intro y0 y1 y2 y3 y4 y5 y6 y7
   unfold laws_FnRowSum.j1
   repeat' first
   | (with_reducible exact ih0 _ _ _)
   | (with_reducible exact ih1 _ _ _ _ _ _ _ _)
   | (with_reducible exact impl_RowSum.mono _ _ _)
   | (with_reducible exact impl_RowXor.mono _ _ _)
   | (with_reducible exact spec_DrawRowSum.mono _ _)
   | (with_reducible exact spec_RowSum.mono _ _ _)
   | (with_reducible exact LeO.refl _)
   | (with_reducible exact LeO.none _)
   | (with_reducible refine LeO.ite ?_ ?_)
   | (with_reducible refine LeO.bind ?_ (fun _ => ?_))
   | exact ih0 _ _ _
   | exact ih1 _ _ _ _ _ _ _ _
   | exact impl_RowSum.mono _ _ _
   | exact impl_RowXor.mono _ _ _
   | exact spec_DrawRowSum.mono _ _
   | exact spec_RowSum.mono _ _ _
   | exact LeO.none _
   | refine LeO.ite ?_ ?_
   | refine LeO.bind ?_ (fun _ => ?_)
theorem laws_FnRowSum.mono : ∀ a0 a1 k, LeO (laws_FnRowSum.f k a0 a1) (laws_FnRowSum.f (k + 1) a0 a1) := by
 intro a0 a1 k
 obtain ⟨ih0, ih1⟩ := laws_FnRowSum.mono_l k
 unfold laws_FnRowSum.f
 repeat' first
  | (with_reducible exact ih0 _ _ _)
  | (with_reducible exact ih1 _ _ _ _ _ _ _ _)
  | (with_reducible exact impl_RowSum.mono _ _ _)
  | (with_reducible exact impl_RowXor.mono _ _ _)
  | (with_reducible exact spec_DrawRowSum.mono _ _)
  | (with_reducible exact spec_RowSum.mono _ _ _)
  | (with_reducible exact LeO.refl _)
  | (with_reducible exact LeO.none _)
  | (with_reducible refine LeO.ite ?_ ?_)
  | (with_reducible refine LeO.bind ?_ (fun _ => ?_))
  | exact ih0 _ _ _
  | exact ih1 _ _ _ _ _ _ _ _
  | exact impl_RowSum.mono _ _ _
  | exact impl_RowXor.mono _ _ _
  | exact spec_DrawRowSum.mono _ _
  | exact spec_RowSum.mono _ _ _
  | exact LeO.none _
  | refine LeO.ite ?_ ?_
  | refine LeO.bind ?_ (fun _ => ?_)
set_option maxHeartbeats 8000000 in
set_option maxRecDepth 100000 in
theorem laws_FnRowSum.calls (k : Nat) (A0 : Option Addr) (c0 : Nat) (l0 : List Int) (A1 : Option Addr) (c1 : Nat) (l1 : List Int) (w : World) (hr0 : Kd.C (Kd.int .u8) w A0 l0.length l0) (hc0 : l0.length ≤ c0) (hr1 : Kd.C (Kd.int .u8) w A1 l1.length l1) (hc1 : l1.length ≤ c1) (h : laws_FnRowSum.f k l0 l1 = some true) :
 Calls Try.prog 6 #[.slice A0 l0.length c0, .slice A1 l1.length c1] w fun e w' => e = .returned (.bool true) ∧ Below w.heap.size w w' := by
 have HR0 := Aside0.mk hr0
 have HC0 := Aside0.mk hc0
 clear hr0 hc0
 have HR1 := Aside0.mk hr1
 have HC1 := Aside0.mk hc1
 clear hr1 hc1
 have HB := Aside0.mk (Below.refl w.heap.size w)
 have H : (if (l0.length : Int) > 1048576 then (laws_FnRowSum.j0 k l0 l1 true) else (laws_FnRowSum.j0 k l0 l1 (decide ((l1.length : Int) > 1048576)))) = some true := h
 clear h
 have HC3 := Aside0.mk H
 clear H
 go_enter Try.func6, Try.ntmps6
 go_upto_region 1 with (fail)
 go_cut [26] (fun v26 wc => ∃ (kq : Nat) (x26_2 : Bool), v26 = .bool x26_2 ∧ Aside0 (laws_FnRowSum.j0 kq l0 l1 x26_2 = some true) ∧ Aside0 (kq ≤ k) ∧ Aside0 (Below w.heap.size w wc))
 case first =>
  have H := HC3.out
  clear HC3
  by_cases c4 : (l0.length : Int) > 1048576
  ·rw [if_pos c4] at H
   have c4b0 : decide (1048576 < (l0.length : Int)) = true := decide_eq_true c4
   have c4b1 : decide (1048576 < l0.length) = true := decide_eq_true (by omega)
   clear c4
   (first | rw [c4b0] | (simp only [i64_w, i32_w]; rw [c4b0]) | skip)
   have H' := Aside0.mk H
   clear H
   go_wp2
   all_goals
    go_meet
    case rel => exact ⟨_, (true), (by first | rfl | (simp; done) | (simp [*]; done) | (simp [wrap64]; done)), H', ⟨by first | omega | exact Nat.le_refl _⟩, ⟨by repeat (first | (with_reducible first | exact HB.out | apply below_alloc | apply pw_below_drewN | apply below_drew1) | exact HB.out)⟩⟩
  ·rw [if_neg c4] at H
   have c4b0 : decide (1048576 < (l0.length : Int)) = false := decide_eq_false c4
   have c4b1 : decide (1048576 < l0.length) = false := decide_eq_false (by omega)
   clear c4
   (first | rw [c4b0] | (simp only [i64_w, i32_w]; rw [c4b0]) | skip)
   have H' := Aside0.mk H
   clear H
   go_wp2
   all_goals
    go_meet
    case rel => exact ⟨_, (decide ((l1.length : Int) > 1048576)), (by first | rfl | (simp; done) | (simp [*]; done) | (simp [wrap64]; done)), H', ⟨by first | omega | exact Nat.le_refl _⟩, ⟨by repeat (first | (with_reducible first | exact HB.out | apply below_alloc | apply pw_below_drewN | apply below_drew1) | exact HB.out)⟩⟩
 case rest =>
  clear HC3
  try clear c1
  try clear p2
  try clear c4
  try clear c4b0
  try clear c4b1
  obtain ⟨kq, x26_2, rfl, HA, HJ2, HB⟩ := hcut
  cases kq with
  | zero => exact absurd HA.out (by simp [laws_FnRowSum.j0])
  | succ kj2 =>
   have H := HA.out
   clear HA
   simp only [laws_FnRowSum.j0] at H
   by_cases c5 : x26_2 = true
   ·subst c5
    have H1 : (some true) = some true := rfl
    clear H
    have H := H1
    clear H1
    clear H
    go_wp2
    go_ret
    exact ⟨by first | rfl | (simp [errW_none, errW_some] <;> rfl) | (simp [*, errW_none, errW_some] <;> rfl), by repeat (first | (with_reducible first | exact HB.out | apply below_alloc | apply pw_below_drewN | apply below_drew1) | exact HB.out)⟩
   ·replace c5 := Bool.eq_false_iff.mpr c5
    subst c5
    have H1 : ((spec_DrawRowSum.f kj2 l0).bind fun bt301 => ((spec_DrawRowSum.f kj2 l1).bind fun bt307 => ((impl_RowSum.f kj2 bt301.1 bt301.2).bind fun bt313 => ((spec_RowSum.f kj2 bt301.1 bt301.2).bind fun bt315 => (if bt313.1.toList = bt315.1.toList then (if (bt313.2 != bt315.2) = true then (laws_FnRowSum.j1 kj2 bt301.1 bt301.2 bt307.2 bt313.1 bt313.2 bt315.1 bt315.2 true) else (laws_FnRowSum.j1 kj2 bt301.1 bt301.2 bt307.2 bt313.1 bt313.2 bt315.1 bt315.2 (!bt313.2))) else (laws_FnRowSum.j1 kj2 bt301.1 bt301.2 bt307.2 bt313.1 bt313.2 bt315.1 bt315.2 true)))))) = some true := by rw [if_neg (show ¬ (false = true) by decide)] at H; exact H
    clear H
    have H := H1
    clear H1
    replace H := bI_ H
    obtain ⟨⟨t301, t302⟩, A60, H⟩ := H
    replace H : ((spec_DrawRowSum.f kj2 l1).bind fun bt307 => ((impl_RowSum.f kj2 t301 t302).bind fun bt313 => ((spec_RowSum.f kj2 t301 t302).bind fun bt315 => (if bt313.1.toList = bt315.1.toList then (if (bt313.2 != bt315.2) = true then (laws_FnRowSum.j1 kj2 t301 t302 bt307.2 bt313.1 bt313.2 bt315.1 bt315.2 true) else (laws_FnRowSum.j1 kj2 t301 t302 bt307.2 bt313.1 bt313.2 bt315.1 bt315.2 (!bt313.2))) else (laws_FnRowSum.j1 kj2 t301 t302 bt307.2 bt313.1 bt313.2 bt315.1 bt315.2 true))))) = some true := H
    have A6 := Aside0.mk A60
    clear A60
    replace H := bI_ H
    obtain ⟨⟨t307, t308⟩, A70, H⟩ := H
    replace H : ((impl_RowSum.f kj2 t301 t302).bind fun bt313 => ((spec_RowSum.f kj2 t301 t302).bind fun bt315 => (if bt313.1.toList = bt315.1.toList then (if (bt313.2 != bt315.2) = true then (laws_FnRowSum.j1 kj2 t301 t302 t308 bt313.1 bt313.2 bt315.1 bt315.2 true) else (laws_FnRowSum.j1 kj2 t301 t302 t308 bt313.1 bt313.2 bt315.1 bt315.2 (!bt313.2))) else (laws_FnRowSum.j1 kj2 t301 t302 t308 bt313.1 bt313.2 bt315.1 bt315.2 true)))) = some true := H
    have A7 := Aside0.mk A70
    clear A70
    replace H := bI_ H
    obtain ⟨⟨t313, t314⟩, A80, H⟩ := H
    replace H : ((spec_RowSum.f kj2 t301 t302).bind fun bt315 => (if t313.toList = bt315.1.toList then (if (t314 != bt315.2) = true then (laws_FnRowSum.j1 kj2 t301 t302 t308 t313 t314 bt315.1 bt315.2 true) else (laws_FnRowSum.j1 kj2 t301 t302 t308 t313 t314 bt315.1 bt315.2 (!t314))) else (laws_FnRowSum.j1 kj2 t301 t302 t308 t313 t314 bt315.1 bt315.2 true))) = some true := H
    have A8 := Aside0.mk A80
    clear A80
    replace H := bI_ H
    obtain ⟨⟨t315, t316⟩, A90, H⟩ := H
    replace H : (if t313.toList = t315.toList then (if (t314 != t316) = true then (laws_FnRowSum.j1 kj2 t301 t302 t308 t313 t314 t315 t316 true) else (laws_FnRowSum.j1 kj2 t301 t302 t308 t313 t314 t315 t316 (!t314))) else (laws_FnRowSum.j1 kj2 t301 t302 t308 t313 t314 t315 t316 true)) = some true := H
    have A9 := Aside0.mk A90
    clear A90
    have HC10 := Aside0.mk H
    clear H
    go_upto_region 7 with (first | ((with_reducible refine gate_callee (f := 20) rfl ?_); refine goesL_ (some 29) rfl rfl Try.func20 (by kernel_rfl) rfl #[.slice A0 l0.length c0] rfl (by (try simp only [List.map_toArray, List.map_cons, List.map_nil]); first | done | rfl | (simp only [List.length_drop, List.length_take]; rfl)) ?_; (with_reducible refine (spec_DrawRowSum.calls kj2 _ _ l0 t301 t302 _ ?side1 ?side2 A6.out).mono ?_); (case side1 => exact gC (Kd.C_below HR0.out HB.out)); (case side2 => exact HC0.out); rintro e w11 ⟨v303, v305, rfl, ho0, ho1, hb⟩; refine ⟨_, rfl, ?_⟩; have n0_ := Aside0.mk (Kd.R_lower ho0 (below_size (gB HB.out))); have n1_ := Aside0.mk (Kd.R_lower ho1 (below_size (gB HB.out))); have n2_ := Aside0.mk (below_step (gB HB.out) hb); clear HB; have HO304 := n0_; have HO306 := n1_; have HB := n2_; clear n0_ n1_ n2_; (try clear hb); (try clear hb2); (try clear hk); (try clear hi); (try clear ho0); (try clear ho1)) | ((with_reducible refine gate_callee (f := 20) rfl ?_); refine goesL_ (some 34) rfl rfl Try.func20 (by kernel_rfl) rfl #[.slice A1 l1.length c1] rfl (by (try simp only [List.map_toArray, List.map_cons, List.map_nil]); first | done | rfl | (simp only [List.length_drop, List.length_take]; rfl)) ?_; (with_reducible refine (spec_DrawRowSum.calls kj2 _ _ l1 t307 t308 _ ?side1 ?side2 A7.out).mono ?_); (case side1 => exact gC (Kd.C_below HR1.out HB.out)); (case side2 => exact HC1.out); rintro e w12 ⟨v309, v311, rfl, ho0, ho1, hb⟩; refine ⟨_, rfl, ?_⟩; have n0_ := Aside0.mk (Kd.R_elder' (gR HO304.out) (Kd.R_base ho0) hb); have n1_ := Aside0.mk (Kd.R_elder' (gR HO306.out) (Kd.R_base ho1) hb); have n2_ := Aside0.mk (Kd.R_lower (Kd.R_new' ho0 (Kd.R_lt (gR HO304.out))) (below_size (gB HB.out))); have n3_ := Aside0.mk (Kd.R_lower (Kd.R_new' ho1 (Kd.R_lt (gR HO306.out))) (below_size (gB HB.out))); have n4_ := Aside0.mk (below_step (gB HB.out) hb); clear HO304; clear HO306; clear HB; have HO304 := n0_; have HO306 := n1_; have HO310 := n2_; have HO312 := n3_; have HB := n4_; clear n0_ n1_ n2_ n3_ n4_; (try clear hb); (try clear hb2); (try clear hk); (try clear hi); (try clear ho0); (try clear ho1); obtain ⟨Ao13, co13, eo13⟩ := Kd.R_slice HO304.out; subst eo13; obtain ⟨Ao14, co14, eo14⟩ := Kd.R_slice HO306.out; subst eo14) | ((with_reducible refine gate_callee (f := 17) rfl ?_); refine goesL_ (some 40) rfl rfl Try.func17 (by kernel_rfl) rfl #[.slice Ao13 t301.length co13, .slice Ao14 t302.length co14] rfl (by (try simp only [List.map_toArray, List.map_cons, List.map_nil]); first | done | rfl | (simp only [List.length_drop, List.length_take]; rfl)) ?_; (with_reducible refine (impl_RowSum.calls kj2 _ _ t301 _ _ t302 t313 t314 _ ?side1 ?side2 ?side3 ?side4 A8.out).mono ?_); (case side1 => repeat (first | exact (Kd.R_reads' HO304.out).2.2 | (with_reducible refine Kd.C_alloc ?_ _) | (with_reducible refine Kd.C_drewN ?_ _) | (with_reducible refine Kd.C_drew ?_))); (case side2 => exact (Kd.R_reads' HO304.out).2.1); (case side3 => repeat (first | exact (Kd.R_reads' HO306.out).2.2 | (with_reducible refine Kd.C_alloc ?_ _) | (with_reducible refine Kd.C_drewN ?_ _) | (with_reducible refine Kd.C_drew ?_))); (case side4 => exact (Kd.R_reads' HO306.out).2.1); rintro e w15 ⟨rfl, hb⟩; refine ⟨_, rfl, ?_⟩; have n0_ := Aside0.mk (Kd.R_below (gR HO304.out) hb); have n1_ := Aside0.mk (Kd.R_below (gR HO306.out) hb); have n2_ := Aside0.mk (Kd.R_below (gR HO310.out) hb); have n3_ := Aside0.mk (Kd.R_below (gR HO312.out) hb); have n4_ := Aside0.mk (below_step (gB HB.out) hb); clear HO304; clear HO306; clear HO310; clear HO312; clear HB; have HO304 := n0_; have HO306 := n1_; have HO310 := n2_; have HO312 := n3_; have HB := n4_; clear n0_ n1_ n2_ n3_ n4_; (try clear hb); (try clear hb2); (try clear hk); (try clear hi)) | ((with_reducible refine gate_callee (f := 14) rfl ?_); refine goesL_ (some 46) rfl rfl Try.func14 (by kernel_rfl) rfl #[.slice Ao13 t301.length co13, .slice Ao14 t302.length co14] rfl (by (try simp only [List.map_toArray, List.map_cons, List.map_nil]); first | done | rfl | (simp only [List.length_drop, List.length_take]; rfl)) ?_; (with_reducible refine (spec_RowSum.calls kj2 _ _ t301 _ _ t302 t315 t316 _ ?side1 ?side2 ?side3 ?side4 A9.out).mono ?_); (case side1 => repeat (first | exact (Kd.R_reads' HO304.out).2.2 | (with_reducible refine Kd.C_alloc ?_ _) | (with_reducible refine Kd.C_drewN ?_ _) | (with_reducible refine Kd.C_drew ?_))); (case side2 => exact (Kd.R_reads' HO304.out).2.1); (case side3 => repeat (first | exact (Kd.R_reads' HO306.out).2.2 | (with_reducible refine Kd.C_alloc ?_ _) | (with_reducible refine Kd.C_drewN ?_ _) | (with_reducible refine Kd.C_drew ?_))); (case side4 => exact (Kd.R_reads' HO306.out).2.1); rintro e w16 ⟨rfl, hb⟩; refine ⟨_, rfl, ?_⟩; have n0_ := Aside0.mk (Kd.R_below (gR HO304.out) hb); have n1_ := Aside0.mk (Kd.R_below (gR HO306.out) hb); have n2_ := Aside0.mk (Kd.R_below (gR HO310.out) hb); have n3_ := Aside0.mk (Kd.R_below (gR HO312.out) hb); have n4_ := Aside0.mk (below_step (gB HB.out) hb); clear HO304; clear HO306; clear HO310; clear HO312; clear HB; have HO304 := n0_; have HO306 := n1_; have HO310 := n2_; have HO312 := n3_; have HB := n4_; clear n0_ n1_ n2_ n3_ n4_; (try clear hb); (try clear hb2); (try clear hk); (try clear hi)))
    (try simp only [Act.put, eA_, e0_, eS_])
    go_cut [60] (fun v60 wc => ∃ (kq : Nat) (x60_9 : Bool), v60 = .bool x60_9 ∧ Aside0 (laws_FnRowSum.j1 kq t301 t302 t308 t313 t314 t315 t316 x60_9 = some true) ∧ Aside0 (kq ≤ kj2) ∧ Aside0 (Kd.R Kd.string 9 wc w.heap.size (fun _ => True) (.slice Ao13 t301.length co13) t301) ∧ Aside0 (Kd.R (Kd.int .i64) 3 wc w.heap.size (fun k_ => some k_ ≠ (v311 : Value).ownBlock) (.slice Ao14 t302.length co14) t302) ∧ Aside0 (Kd.R (Kd.int .i64) 3 wc w.heap.size (fun k_ => some k_ ≠ ((.slice Ao14 t302.length co14) : Value).ownBlock) v311 t308) ∧ Aside0 (Below w.heap.size w wc))
    case first =>
     have H := HC10.out
     clear HC10
     by_cases c17 : t313.toList = t315.toList
     ·rw [if_pos c17] at H
      have c17b0 : (t313.toList == t315.toList) = true := beq_iff_eq.mpr c17
      have c17b1 : (t313.toList != t315.toList) = false := bne_eq_false_iff_eq.mpr c17
      clear c17
      (first | rw [c17b0] | (simp only [i64_w, i32_w]; rw [c17b0]) | skip)
      by_cases c18 : (t314 != t316) = true
      ·rw [if_pos c18] at H
       have c18b0 : (t314 != t316) = true := c18
       (try (have c18b1 : decide (t314 = t316) = false := by simpa using c18))
       (try (have c18b2 : (t314 == t316) = false := by simpa using c18))
       (try (have c18b3 : ¬ (t314 = t316) := by simpa using c18))
       clear c18
       have H' := Aside0.mk H
       clear H
       go_wp2
       all_goals
        go_meet
        case rel => exact ⟨_, (true), (by first | rfl | (simp; done) | (simp [*]; done) | (simp [wrap64]; done)), H', ⟨by have := HJ2.out; first | omega | exact Nat.le_refl _⟩, ⟨by (with_reducible repeat (first | apply Kd.R_alloc | apply Kd.R_drewN | apply Kd.R_drew)); exact Kd.R_mono HO304.out (fun _ hk => trivial)⟩, ⟨by (with_reducible repeat (first | apply Kd.R_alloc | apply Kd.R_drewN | apply Kd.R_drew)); exact Kd.R_mono HO306.out (fun _ hk => hk.2)⟩, ⟨by (with_reducible repeat (first | apply Kd.R_alloc | apply Kd.R_drewN | apply Kd.R_drew)); exact Kd.R_mono HO312.out (fun _ hk => hk.2)⟩, ⟨by repeat (first | (with_reducible first | exact HB.out | apply below_alloc | apply pw_below_drewN | apply below_drew1) | exact HB.out)⟩⟩
      ·rw [if_neg c18] at H
       have c18b0 : (t314 != t316) = false := by simpa using c18
       (try (have c18b1 : decide (t314 = t316) = true := by simpa using c18))
       (try (have c18b2 : (t314 == t316) = true := by simpa using c18))
       clear c18
       have H' := Aside0.mk H
       clear H
       go_wp2
       all_goals
        go_meet
        case rel => exact ⟨_, (!t314), (by first | rfl | (simp; done) | (simp [*]; done) | (simp [wrap64]; done)), H', ⟨by have := HJ2.out; first | omega | exact Nat.le_refl _⟩, ⟨by (with_reducible repeat (first | apply Kd.R_alloc | apply Kd.R_drewN | apply Kd.R_drew)); exact Kd.R_mono HO304.out (fun _ hk => trivial)⟩, ⟨by (with_reducible repeat (first | apply Kd.R_alloc | apply Kd.R_drewN | apply Kd.R_drew)); exact Kd.R_mono HO306.out (fun _ hk => hk.2)⟩, ⟨by (with_reducible repeat (first | apply Kd.R_alloc | apply Kd.R_drewN | apply Kd.R_drew)); exact Kd.R_mono HO312.out (fun _ hk => hk.2)⟩, ⟨by repeat (first | (with_reducible first | exact HB.out | apply below_alloc | apply pw_below_drewN | apply below_drew1) | exact HB.out)⟩⟩
     ·rw [if_neg c17] at H
      have c17b0 : (t313.toList == t315.toList) = false := beq_eq_false_iff_ne.mpr c17
      have c17b1 : (t313.toList != t315.toList) = true := bne_iff_ne.mpr c17
      (first | rw [c17b0] | (simp only [i64_w, i32_w]; rw [c17b0]) | skip)
      have H' := Aside0.mk H
      clear H
      go_wp2
      all_goals
       go_meet
       case rel => exact ⟨_, (true), (by first | rfl | (simp; done) | (simp [*]; done) | (simp [wrap64]; done)), H', ⟨by have := HJ2.out; first | omega | exact Nat.le_refl _⟩, ⟨by (with_reducible repeat (first | apply Kd.R_alloc | apply Kd.R_drewN | apply Kd.R_drew)); exact Kd.R_mono HO304.out (fun _ hk => trivial)⟩, ⟨by (with_reducible repeat (first | apply Kd.R_alloc | apply Kd.R_drewN | apply Kd.R_drew)); exact Kd.R_mono HO306.out (fun _ hk => hk.2)⟩, ⟨by (with_reducible repeat (first | apply Kd.R_alloc | apply Kd.R_drewN | apply Kd.R_drew)); exact Kd.R_mono HO312.out (fun _ hk => hk.2)⟩, ⟨by repeat (first | (with_reducible first | exact HB.out | apply below_alloc | apply pw_below_drewN | apply below_drew1) | exact HB.out)⟩⟩
    case rest =>
     clear HC10
     try clear c1
     try clear c2
     try clear p2
     try clear c4
     try clear c4b0
     try clear c4b1
     try clear c5
     try clear c6
     try clear c14
     try clear c17
     try clear c17b0
     try clear c17b1
     try clear c18
     try clear c18b0
     try clear c18b1
     try clear c18b2
     try clear p2
     obtain ⟨kq, x60_9, rfl, HA, HJ9, HO_5, HO_6, HO_8, HB⟩ := hcut
     cases kq with
     | zero => exact absurd HA.out (by simp [laws_FnRowSum.j1])
     | succ kj9 =>
      have H := HA.out
      clear HA
      simp only [laws_FnRowSum.j1] at H
      by_cases c19 : x60_9 = true
      ·subst c19
       have H1 : (if t313.toList = t315.toList then (some (t314 == t316)) else (some false)) = some true := by rw [if_pos rfl] at H; exact H
       clear H
       have H := H1
       clear H1
       by_cases c20 : t313.toList = t315.toList
       ·rw [if_pos c20] at H
        have c20b0 : (t313.toList == t315.toList) = true := beq_iff_eq.mpr c20
        have c20b1 : (t313.toList != t315.toList) = false := bne_eq_false_iff_eq.mpr c20
        clear c20
        have hres_ := Option.some.inj H
        clear H
        go_wp2
        go_ret
        exact ⟨by first | rfl | (simp [errW_none, errW_some] <;> rfl) | (simp [*, errW_none, errW_some] <;> rfl), by repeat (first | (with_reducible first | exact HB.out | apply below_alloc | apply pw_below_drewN | apply below_drew1) | exact HB.out)⟩
       ·rw [if_neg c20] at H
        have c20b0 : (t313.toList == t315.toList) = false := beq_eq_false_iff_ne.mpr c20
        have c20b1 : (t313.toList != t315.toList) = true := bne_iff_ne.mpr c20
        exact absurd H (by simp)
      ·replace c19 := Bool.eq_false_iff.mpr c19
       subst c19
       have H1 : ((impl_RowSum.f kj9 t301 t308).bind fun bt317 => (if bt317.2 = true then ((impl_RowXor.f kj9 t302 t308).bind fun t319 => ((impl_RowSum.f kj9 t301 t319).bind fun bt322 => ((impl_BlockXor.f t313 bt317.1).bind fun bt324 => (if bt322.2 = true then (if bt324.2 = true then (some (bt322.1.toList == bt324.1.toList)) else (some false)) else (some false))))) else (some (bt317.1.toList == ([] : List UInt8))))) = some true := by rw [if_neg (show ¬ (false = true) by decide)] at H; exact H
       clear H
       have H := H1
       clear H1
       replace H := bI_ H
       obtain ⟨⟨t317, t318⟩, A210, H⟩ := H
       replace H : (if t318 = true then ((impl_RowXor.f kj9 t302 t308).bind fun t319 => ((impl_RowSum.f kj9 t301 t319).bind fun bt322 => ((impl_BlockXor.f t313 t317).bind fun bt324 => (if bt322.2 = true then (if bt324.2 = true then (some (bt322.1.toList == bt324.1.toList)) else (some false)) else (some false))))) else (some (t317.toList == ([] : List UInt8)))) = some true := H
       have A21 := Aside0.mk A210
       clear A210
       by_cases c22 : t318 = true
       ·subst c22
        have H1 : ((impl_RowXor.f kj9 t302 t308).bind fun t319 => ((impl_RowSum.f kj9 t301 t319).bind fun bt322 => ((impl_BlockXor.f t313 t317).bind fun bt324 => (if bt322.2 = true then (if bt324.2 = true then (some (bt322.1.toList == bt324.1.toList)) else (some false)) else (some false))))) = some true := by rw [if_pos rfl] at H; exact H
        clear H
        have H := H1
        clear H1
        replace H := bI_ H
        obtain ⟨t319, A230, H⟩ := H
        replace H : ((impl_RowSum.f kj9 t301 t319).bind fun bt322 => ((impl_BlockXor.f t313 t317).bind fun bt324 => (if bt322.2 = true then (if bt324.2 = true then (some (bt322.1.toList == bt324.1.toList)) else (some false)) else (some false)))) = some true := H
        have A23 := Aside0.mk A230
        clear A230
        replace H := bI_ H
        obtain ⟨⟨t322, t323⟩, A240, H⟩ := H
        replace H : ((impl_BlockXor.f t313 t317).bind fun bt324 => (if t323 = true then (if bt324.2 = true then (some (t322.toList == bt324.1.toList)) else (some false)) else (some false))) = some true := H
        have A24 := Aside0.mk A240
        clear A240
        replace H := bI_ H
        obtain ⟨⟨t324, t325⟩, A250, H⟩ := H
        replace H : (if t323 = true then (if t325 = true then (some (t322.toList == t324.toList)) else (some false)) else (some false)) = some true := H
        have A25 := Aside0.mk A250
        clear A250
        by_cases c26 : t323 = true
        ·subst c26
         have H1 : (if t325 = true then (some (t322.toList == t324.toList)) else (some false)) = some true := by rw [if_pos rfl] at H; exact H
         clear H
         have H := H1
         clear H1
         by_cases c27 : t325 = true
         ·subst c27
          have H1 : (some (t322.toList == t324.toList)) = some true := by rw [if_pos rfl] at H; exact H
          clear H
          have H := H1
          clear H1
          have hres_ := Option.some.inj H
          clear H
          obtain ⟨Ao28, co28, eo28⟩ := Kd.R_slice HO_8.out
          subst eo28
          go_wp2_with (first | ((with_reducible refine gate_callee (f := 17) rfl ?_); refine goesL_ (some 72) rfl rfl Try.func17 (by kernel_rfl) rfl #[.slice Ao13 t301.length co13, .slice Ao28 t308.length co28] rfl (by (try simp only [List.map_toArray, List.map_cons, List.map_nil]); first | done | rfl | (simp only [List.length_drop, List.length_take]; rfl)) ?_; (with_reducible refine (impl_RowSum.calls kj9 _ _ t301 _ _ t308 t317 true _ ?side1 ?side2 ?side3 ?side4 A21.out).mono ?_); (case side1 => repeat (first | exact (Kd.R_reads' HO_5.out).2.2 | (with_reducible refine Kd.C_alloc ?_ _) | (with_reducible refine Kd.C_drewN ?_ _) | (with_reducible refine Kd.C_drew ?_))); (case side2 => exact (Kd.R_reads' HO_5.out).2.1); (case side3 => repeat (first | exact (Kd.R_reads' HO_8.out).2.2 | (with_reducible refine Kd.C_alloc ?_ _) | (with_reducible refine Kd.C_drewN ?_ _) | (with_reducible refine Kd.C_drew ?_))); (case side4 => exact (Kd.R_reads' HO_8.out).2.1); rintro e w29 ⟨rfl, hb⟩; refine ⟨_, rfl, ?_⟩; have n0_ := Aside0.mk (Kd.R_below (gR HO_5.out) hb); have n1_ := Aside0.mk (Kd.R_below (gR HO_6.out) hb); have n2_ := Aside0.mk (Kd.R_below (gR HO_8.out) hb); have n3_ := Aside0.mk (below_step (gB HB.out) hb); clear HO_5; clear HO_6; clear HO_8; clear HB; have HO_5 := n0_; have HO_6 := n1_; have HO_8 := n2_; have HB := n3_; clear n0_ n1_ n2_ n3_; (try clear hb); (try clear hb2); (try clear hk); (try clear hi)) | ((with_reducible refine gate_callee (f := 21) rfl ?_); refine goesL_ (some 83) rfl rfl Try.func21 (by kernel_rfl) rfl #[.slice Ao14 t302.length co14, .slice Ao28 t308.length co28] rfl (by (try simp only [List.map_toArray, List.map_cons, List.map_nil]); first | done | rfl | (simp only [List.length_drop, List.length_take]; rfl)) ?_; (with_reducible refine (impl_RowXor.calls kj9 _ _ t302 _ _ t308 t319 _ ?side1 ?side2 ?side3 ?side4 A23.out).mono ?_); (case side1 => repeat (first | exact (Kd.R_reads' HO_6.out).2.2 | (with_reducible refine Kd.C_alloc ?_ _) | (with_reducible refine Kd.C_drewN ?_ _) | (with_reducible refine Kd.C_drew ?_))); (case side2 => exact (Kd.R_reads' HO_6.out).2.1); (case side3 => repeat (first | exact (Kd.R_reads' HO_8.out).2.2 | (with_reducible refine Kd.C_alloc ?_ _) | (with_reducible refine Kd.C_drewN ?_ _) | (with_reducible refine Kd.C_drew ?_))); (case side4 => exact (Kd.R_reads' HO_8.out).2.1); rintro e w30 ⟨v320, rfl, ho0, hb⟩; refine ⟨_, rfl, ?_⟩; have n0_ := Aside0.mk (Kd.R_below (gR HO_5.out) hb); have n1_ := Aside0.mk (Kd.R_elder' (gR HO_6.out) (Kd.R_base ho0) hb); have n2_ := Aside0.mk (Kd.R_elder' (gR HO_8.out) (Kd.R_base ho0) hb); have n3_ := Aside0.mk (Kd.R_lower (Kd.R_new' (Kd.R_new' ho0 (Kd.R_lt (gR HO_6.out))) (Kd.R_lt (gR HO_8.out))) (below_size (gB HB.out))); have n4_ := Aside0.mk (below_step (gB HB.out) hb); clear HO_5; clear HO_6; clear HO_8; clear HB; have HO_5 := n0_; have HO_6 := n1_; have HO_8 := n2_; have HO321 := n3_; have HB := n4_; clear n0_ n1_ n2_ n3_ n4_; (try clear hb); (try clear hb2); (try clear hk); (try clear hi); (try clear ho0); obtain ⟨Ao31, co31, eo31⟩ := Kd.R_slice HO321.out; subst eo31) | ((with_reducible refine gate_callee (f := 17) rfl ?_); refine goesL_ (some 84) rfl rfl Try.func17 (by kernel_rfl) rfl #[.slice Ao13 t301.length co13, .slice Ao31 t319.length co31] rfl (by (try simp only [List.map_toArray, List.map_cons, List.map_nil]); first | done | rfl | (simp only [List.length_drop, List.length_take]; rfl)) ?_; (with_reducible refine (impl_RowSum.calls kj9 _ _ t301 _ _ t319 t322 true _ ?side1 ?side2 ?side3 ?side4 A24.out).mono ?_); (case side1 => repeat (first | exact (Kd.R_reads' HO_5.out).2.2 | (with_reducible refine Kd.C_alloc ?_ _) | (with_reducible refine Kd.C_drewN ?_ _) | (with_reducible refine Kd.C_drew ?_))); (case side2 => exact (Kd.R_reads' HO_5.out).2.1); (case side3 => repeat (first | exact (Kd.R_reads' HO321.out).2.2 | (with_reducible refine Kd.C_alloc ?_ _) | (with_reducible refine Kd.C_drewN ?_ _) | (with_reducible refine Kd.C_drew ?_))); (case side4 => exact (Kd.R_reads' HO321.out).2.1); rintro e w32 ⟨rfl, hb⟩; refine ⟨_, rfl, ?_⟩; have n0_ := Aside0.mk (Kd.R_below (gR HO_5.out) hb); have n1_ := Aside0.mk (Kd.R_below (gR HO_6.out) hb); have n2_ := Aside0.mk (Kd.R_below (gR HO_8.out) hb); have n3_ := Aside0.mk (Kd.R_below (gR HO321.out) hb); have n4_ := Aside0.mk (below_step (gB HB.out) hb); clear HO_5; clear HO_6; clear HO_8; clear HO321; clear HB; have HO_5 := n0_; have HO_6 := n1_; have HO_8 := n2_; have HO321 := n3_; have HB := n4_; clear n0_ n1_ n2_ n3_ n4_; (try clear hb); (try clear hb2); (try clear hk); (try clear hi)) | ((with_reducible refine gate_callee (f := 11) rfl ?_); refine goesL_ (some 90) rfl rfl Try.func11 (by kernel_rfl) rfl #[.string t313, .string t317] rfl (by (try simp only [List.map_toArray, List.map_cons, List.map_nil]); first | done | rfl | (simp only [List.length_drop, List.length_take]; rfl)) ?_; (with_reducible refine (impl_BlockXor.calls t313 t317 t324 true _ A25.out).mono ?_); rintro e w33 ⟨rfl, hb⟩; refine ⟨_, rfl, ?_⟩; have n0_ := Aside0.mk (Kd.R_below (gR HO_5.out) hb); have n1_ := Aside0.mk (Kd.R_below (gR HO_6.out) hb); have n2_ := Aside0.mk (Kd.R_below (gR HO_8.out) hb); have n3_ := Aside0.mk (Kd.R_below (gR HO321.out) hb); have n4_ := Aside0.mk (below_step (gB HB.out) hb); clear HO_5; clear HO_6; clear HO_8; clear HO321; clear HB; have HO_5 := n0_; have HO_6 := n1_; have HO_8 := n2_; have HO321 := n3_; have HB := n4_; clear n0_ n1_ n2_ n3_ n4_; (try clear hb); (try clear hb2); (try clear hk); (try clear hi)))
          go_ret
          exact ⟨by first | rfl | (simp [errW_none, errW_some] <;> rfl) | (simp [*, errW_none, errW_some] <;> rfl), by repeat (first | (with_reducible first | exact HB.out | apply below_alloc | apply pw_below_drewN | apply below_drew1) | exact HB.out)⟩
         ·replace c27 := Bool.eq_false_iff.mpr c27
          subst c27
          have H1 : (some false) = some true := by rw [if_neg (show ¬ (false = true) by decide)] at H; exact H
          clear H
          have H := H1
          clear H1
          exact absurd H (by simp)
        ·replace c26 := Bool.eq_false_iff.mpr c26
         subst c26
         have H1 : (some false) = some true := by rw [if_neg (show ¬ (false = true) by decide)] at H; exact H
         clear H
         have H := H1
         clear H1
         exact absurd H (by simp)
       ·replace c22 := Bool.eq_false_iff.mpr c22
        subst c22
        have H1 : (some (t317.toList == ([] : List UInt8))) = some true := by rw [if_neg (show ¬ (false = true) by decide)] at H; exact H
        clear H
        have H := H1
        clear H1
        have hres_ := Option.some.inj H
        clear H
        obtain ⟨Ao34, co34, eo34⟩ := Kd.R_slice HO_8.out
        subst eo34
        go_wp2_with (first | ((with_reducible refine gate_callee (f := 17) rfl ?_); refine goesL_ (some 72) rfl rfl Try.func17 (by kernel_rfl) rfl #[.slice Ao13 t301.length co13, .slice Ao34 t308.length co34] rfl (by (try simp only [List.map_toArray, List.map_cons, List.map_nil]); first | done | rfl | (simp only [List.length_drop, List.length_take]; rfl)) ?_; (with_reducible refine (impl_RowSum.calls kj9 _ _ t301 _ _ t308 t317 false _ ?side1 ?side2 ?side3 ?side4 A21.out).mono ?_); (case side1 => repeat (first | exact (Kd.R_reads' HO_5.out).2.2 | (with_reducible refine Kd.C_alloc ?_ _) | (with_reducible refine Kd.C_drewN ?_ _) | (with_reducible refine Kd.C_drew ?_))); (case side2 => exact (Kd.R_reads' HO_5.out).2.1); (case side3 => repeat (first | exact (Kd.R_reads' HO_8.out).2.2 | (with_reducible refine Kd.C_alloc ?_ _) | (with_reducible refine Kd.C_drewN ?_ _) | (with_reducible refine Kd.C_drew ?_))); (case side4 => exact (Kd.R_reads' HO_8.out).2.1); rintro e w35 ⟨rfl, hb⟩; refine ⟨_, rfl, ?_⟩; have n0_ := Aside0.mk (Kd.R_below (gR HO_5.out) hb); have n1_ := Aside0.mk (Kd.R_below (gR HO_6.out) hb); have n2_ := Aside0.mk (Kd.R_below (gR HO_8.out) hb); have n3_ := Aside0.mk (below_step (gB HB.out) hb); clear HO_5; clear HO_6; clear HO_8; clear HB; have HO_5 := n0_; have HO_6 := n1_; have HO_8 := n2_; have HB := n3_; clear n0_ n1_ n2_ n3_; (try clear hb); (try clear hb2); (try clear hk); (try clear hi)))
        go_ret
        exact ⟨by first | rfl | (simp [errW_none, errW_some] <;> rfl) | (simp [*, errW_none, errW_some] <;> rfl), by repeat (first | (with_reducible first | exact HB.out | apply below_alloc | apply pw_below_drewN | apply below_drew1) | exact HB.out)⟩

/-- THE ONE PURE STATEMENT of laws_FnRowSum: yours. -/
def laws_FnRowSum.Pure : Prop := ∀ (l0 : List Int) (l1 : List Int), l0.length ≤ maxLen → l0.length * 1 ≤ 140737488351232 → (∀ x ∈ l0, (Lit.int .u8 x).wf = true) → l1.length ≤ maxLen → l1.length * 1 ≤ 140737488351232 → (∀ x ∈ l1, (Lit.int .u8 x).wf = true) → ∃ k, laws_FnRowSum.f k l0 l1 = some true
theorem laws_FnRowSum.walk (P : laws_FnRowSum.Pure) (a0 : Option Addr) (len0 cap0 : Nat) (z0 : List Int) (a1 : Option Addr) (len1 cap1 : Nat) (z1 : List Int) (w : World) (w0 : (a0 = none ∧ len0 = 0 ∧ cap0 = 0 ∧ z0 = []) ∨ ∃ x, a0 = some x ∧ len0 ≤ cap0 ∧ cap0 ≤ maxLen ∧ z0.length = cap0 ∧ (∀ i, i < z0.length → w.cell? (x.add i) = some (.int .u8 (z0.getD i 0))) ∧ ∀ n ∈ z0, (Lit.int .u8 n).wf = true) (y0 : len0 * 1 ≤ 140737488351232) (w1 : (a1 = none ∧ len1 = 0 ∧ cap1 = 0 ∧ z1 = []) ∨ ∃ x, a1 = some x ∧ len1 ≤ cap1 ∧ cap1 ≤ maxLen ∧ z1.length = cap1 ∧ (∀ i, i < z1.length → w.cell? (x.add i) = some (.int .u8 (z1.getD i 0))) ∧ ∀ n ∈ z1, (Lit.int .u8 n).wf = true) (y1 : len1 * 1 ≤ 140737488351232) :
 Calls Try.prog 6 #[.slice a0 len0 cap0, .slice a1 len1 cap1] w fun e w' => e = .returned (.bool true) ∧ Below w.heap.size w w' := by
 obtain ⟨l0, rfl, hr0, hm0, hw0, hc0⟩ := ReadsInt.ofRowC w0
 obtain ⟨l1, rfl, hr1, hm1, hw1, hc1⟩ := ReadsInt.ofRowC w1
 obtain ⟨k, h⟩ := P l0 l1 hm0 y0 hw0 hm1 y1 hw1
 refine (laws_FnRowSum.calls k _ _ l0 _ _ l1 w (Kd.C_of_reads (d := (0 : Int)) (h1 := fun _ => rfl) hr0) hc0 (Kd.C_of_reads (d := (0 : Int)) (h1 := fun _ => rfl) hr1) hc1 h).mono ?_
 rintro e w' ⟨rfl, hd⟩
 exact ⟨rfl, hd⟩

end Go.Proofs.Ytbgheffgkncpgaa.X
