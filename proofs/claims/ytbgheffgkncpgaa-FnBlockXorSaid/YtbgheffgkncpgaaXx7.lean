/- Printed for this claim by the session's program (the kit's printer, several laws in one place): the functions that the law reaches, each as a plain Lean function, and the proof that the Go code comes to its answers. Conditions: none beside those that each theorem states. -/
import Derived.Test.YtbgheffgkncpgaaXx0
import Derived.Test.YtbgheffgkncpgaaXx2
import Derived.Test.YtbgheffgkncpgaaXx3
import Derived.Test.YtbgheffgkncpgaaXx6
import Derived.Test.YtbgheffgkncpgaaWAll
namespace Go.Proofs.Ytbgheffgkncpgaa.X
open Go.RowKit Go.Proofs.YtbgheffgkncpgaaW.PrintWords Go.Proofs.YtbgheffgkncpgaaW.PrintLast Go.Proofs.YtbgheffgkncpgaaW.PrintStep Go.Proofs.YtbgheffgkncpgaaW.PrintMore
attribute [local go_sem] max2_int min2_int max_two min_two max_three min_three max_four min_four   -- for this text's walks alone
set_option linter.unusedVariables false
set_option linter.unusedSimpArgs false

/-! ### laws_FnBlockXor: function 4 -/
def laws_FnBlockXor.j0 : Nat → ByteArray → ByteArray → ByteArray → Bool → ByteArray → Bool → Bool → Option (Bool)
 | 0, _, _, _, _, _, _, _ => none
 | k + 1, x3, x4, x5, x6, x7, x8, x44 => if x44 = true then (if x5.toList = x7.toList then (some (x6 == x8)) else (some false)) else ((impl_BlockXor.f x5 x4).bind fun bt150 => ((impl_BlockXor.f x4 x3).bind fun bt152 => (if bt150.2 = true then (if bt150.1.toList = x3.toList then (if bt152.2 = true then (if bt152.1.toList = x5.toList then (some ((x5.size : Int) == (x3.size : Int))) else (some false)) else (some false)) else (some false)) else (some false))))
def laws_FnBlockXor.f (k : Nat) (l0 : List Int) : Option (Bool) := if (l0.length : Int) > 1048576 then (some true) else ((spec_DrawBlockXor.f k l0).bind fun bt144 => ((impl_BlockXor.f bt144.1 bt144.2).bind fun bt146 => ((spec_BlockXor.f k bt144.1 bt144.2).bind fun bt148 => (if bt146.1.toList = bt148.1.toList then (if (bt146.2 != bt148.2) = true then (laws_FnBlockXor.j0 k bt144.1 bt144.2 bt146.1 bt146.2 bt148.1 bt148.2 true) else (laws_FnBlockXor.j0 k bt144.1 bt144.2 bt146.1 bt146.2 bt148.1 bt148.2 (!bt146.2))) else (laws_FnBlockXor.j0 k bt144.1 bt144.2 bt146.1 bt146.2 bt148.1 bt148.2 true)))))
theorem laws_FnBlockXor.mono_l : ∀ k, (∀ y0 y1 y2 y3 y4 y5 y6, LeO (laws_FnBlockXor.j0 k y0 y1 y2 y3 y4 y5 y6) (laws_FnBlockXor.j0 (k + 1) y0 y1 y2 y3 y4 y5 y6))
 | 0 => fun _ _ _ _ _ _ _ r h => by simp [laws_FnBlockXor.j0] at h
 | k + 1 => by
  have ih0 := laws_FnBlockXor.mono_l k
  ·intro y0 y1 y2 y3 y4 y5 y6
   unfold laws_FnBlockXor.j0
   repeat' first
   | (with_reducible exact ih0 _ _ _ _ _ _ _)
   | (with_reducible exact spec_BlockXor.mono _ _ _)
   | (with_reducible exact spec_DrawBlockXor.mono _ _)
   | (with_reducible exact LeO.refl _)
   | (with_reducible exact LeO.none _)
   | (with_reducible refine LeO.ite ?_ ?_)
   | (with_reducible refine LeO.bind ?_ (fun _ => ?_))
   | exact ih0 _ _ _ _ _ _ _
   | exact spec_BlockXor.mono _ _ _
   | exact spec_DrawBlockXor.mono _ _
   | exact LeO.none _
   | refine LeO.ite ?_ ?_
   | refine LeO.bind ?_ (fun _ => ?_)
theorem laws_FnBlockXor.mono : ∀ a0 k, LeO (laws_FnBlockXor.f k a0) (laws_FnBlockXor.f (k + 1) a0) := by
 intro a0 k
 have ih0 := laws_FnBlockXor.mono_l k
 unfold laws_FnBlockXor.f
 repeat' first
  | (with_reducible exact ih0 _ _ _ _ _ _ _)
  | (with_reducible exact spec_BlockXor.mono _ _ _)
  | (with_reducible exact spec_DrawBlockXor.mono _ _)
  | (with_reducible exact LeO.refl _)
  | (with_reducible exact LeO.none _)
  | (with_reducible refine LeO.ite ?_ ?_)
  | (with_reducible refine LeO.bind ?_ (fun _ => ?_))
  | exact ih0 _ _ _ _ _ _ _
  | exact spec_BlockXor.mono _ _ _
  | exact spec_DrawBlockXor.mono _ _
  | exact LeO.none _
  | refine LeO.ite ?_ ?_
  | refine LeO.bind ?_ (fun _ => ?_)
set_option maxHeartbeats 8000000 in
set_option maxRecDepth 100000 in
theorem laws_FnBlockXor.calls (k : Nat) (A0 : Option Addr) (c0 : Nat) (l0 : List Int) (w : World) (hr0 : Kd.C (Kd.int .u8) w A0 l0.length l0) (hc0 : l0.length ≤ c0) (h : laws_FnBlockXor.f k l0 = some true) :
 Calls Try.prog 4 #[.slice A0 l0.length c0] w fun e w' => e = .returned (.bool true) ∧ Below w.heap.size w w' := by
 have HR0 := Aside0.mk hr0
 have HC0 := Aside0.mk hc0
 clear hr0 hc0
 have HB := Aside0.mk (Below.refl w.heap.size w)
 have H : (if (l0.length : Int) > 1048576 then (some true) else ((spec_DrawBlockXor.f k l0).bind fun bt144 => ((impl_BlockXor.f bt144.1 bt144.2).bind fun bt146 => ((spec_BlockXor.f k bt144.1 bt144.2).bind fun bt148 => (if bt146.1.toList = bt148.1.toList then (if (bt146.2 != bt148.2) = true then (laws_FnBlockXor.j0 k bt144.1 bt144.2 bt146.1 bt146.2 bt148.1 bt148.2 true) else (laws_FnBlockXor.j0 k bt144.1 bt144.2 bt146.1 bt146.2 bt148.1 bt148.2 (!bt146.2))) else (laws_FnBlockXor.j0 k bt144.1 bt144.2 bt146.1 bt146.2 bt148.1 bt148.2 true)))))) = some true := h
 clear h
 by_cases c2 : (l0.length : Int) > 1048576
 ·rw [if_pos c2] at H
  have c2b0 : decide (1048576 < (l0.length : Int)) = true := decide_eq_true c2
  have c2b1 : decide (1048576 < l0.length) = true := decide_eq_true (by omega)
  clear c2
  clear H
  go_enter Try.func4, Try.ntmps4
  go_wp2
  go_ret
  exact ⟨by first | rfl | (simp [errW_none, errW_some] <;> rfl) | (simp [*, errW_none, errW_some] <;> rfl), by repeat (first | (with_reducible first | exact HB.out | apply below_alloc | apply pw_below_drewN | apply below_drew1) | exact HB.out)⟩
 ·rw [if_neg c2] at H
  have c2b0 : decide (1048576 < (l0.length : Int)) = false := decide_eq_false c2
  have c2b1 : decide (1048576 < l0.length) = false := decide_eq_false (by omega)
  clear c2
  replace H := bI_ H
  obtain ⟨⟨t144, t145⟩, A30, H⟩ := H
  replace H : ((impl_BlockXor.f t144 t145).bind fun bt146 => ((spec_BlockXor.f k t144 t145).bind fun bt148 => (if bt146.1.toList = bt148.1.toList then (if (bt146.2 != bt148.2) = true then (laws_FnBlockXor.j0 k t144 t145 bt146.1 bt146.2 bt148.1 bt148.2 true) else (laws_FnBlockXor.j0 k t144 t145 bt146.1 bt146.2 bt148.1 bt148.2 (!bt146.2))) else (laws_FnBlockXor.j0 k t144 t145 bt146.1 bt146.2 bt148.1 bt148.2 true)))) = some true := H
  have A3 := Aside0.mk A30
  clear A30
  replace H := bI_ H
  obtain ⟨⟨t146, t147⟩, A40, H⟩ := H
  replace H : ((spec_BlockXor.f k t144 t145).bind fun bt148 => (if t146.toList = bt148.1.toList then (if (t147 != bt148.2) = true then (laws_FnBlockXor.j0 k t144 t145 t146 t147 bt148.1 bt148.2 true) else (laws_FnBlockXor.j0 k t144 t145 t146 t147 bt148.1 bt148.2 (!t147))) else (laws_FnBlockXor.j0 k t144 t145 t146 t147 bt148.1 bt148.2 true))) = some true := H
  have A4 := Aside0.mk A40
  clear A40
  replace H := bI_ H
  obtain ⟨⟨t148, t149⟩, A50, H⟩ := H
  replace H : (if t146.toList = t148.toList then (if (t147 != t149) = true then (laws_FnBlockXor.j0 k t144 t145 t146 t147 t148 t149 true) else (laws_FnBlockXor.j0 k t144 t145 t146 t147 t148 t149 (!t147))) else (laws_FnBlockXor.j0 k t144 t145 t146 t147 t148 t149 true)) = some true := H
  have A5 := Aside0.mk A50
  clear A50
  have HC6 := Aside0.mk H
  clear H
  go_enter Try.func4, Try.ntmps4
  go_upto_region 6 with (first | ((with_reducible refine gate_callee (f := 12) rfl ?_); refine goesL_ (some 18) rfl rfl Try.func12 (by kernel_rfl) rfl #[.slice A0 l0.length c0] rfl (by (try simp only [List.map_toArray, List.map_cons, List.map_nil]); first | done | rfl | (simp only [List.length_drop, List.length_take]; rfl)) ?_; (with_reducible refine (spec_DrawBlockXor.calls k _ _ l0 t144 t145 _ ?side1 ?side2 A3.out).mono ?_); (case side1 => exact gC HR0.out); (case side2 => exact HC0.out); rintro e w7 ⟨rfl, hb⟩; refine ⟨_, rfl, ?_⟩; have n0_ := Aside0.mk (below_step (gB HB.out) hb); clear HB; have HB := n0_; clear n0_; (try clear hb); (try clear hb2); (try clear hk); (try clear hi)) | ((with_reducible refine gate_callee (f := 11) rfl ?_); refine goesL_ (some 24) rfl rfl Try.func11 (by kernel_rfl) rfl #[.string t144, .string t145] rfl (by (try simp only [List.map_toArray, List.map_cons, List.map_nil]); first | done | rfl | (simp only [List.length_drop, List.length_take]; rfl)) ?_; (with_reducible refine (impl_BlockXor.calls t144 t145 t146 t147 _ A4.out).mono ?_); rintro e w8 ⟨rfl, hb⟩; refine ⟨_, rfl, ?_⟩; have n0_ := Aside0.mk (below_step (gB HB.out) hb); clear HB; have HB := n0_; clear n0_; (try clear hb); (try clear hb2); (try clear hk); (try clear hi)) | ((with_reducible refine gate_callee (f := 10) rfl ?_); refine goesL_ (some 30) rfl rfl Try.func10 (by kernel_rfl) rfl #[.string t144, .string t145] rfl (by (try simp only [List.map_toArray, List.map_cons, List.map_nil]); first | done | rfl | (simp only [List.length_drop, List.length_take]; rfl)) ?_; (with_reducible refine (spec_BlockXor.calls k t144 t145 t148 t149 _ A5.out).mono ?_); rintro e w9 ⟨rfl, hb⟩; refine ⟨_, rfl, ?_⟩; have n0_ := Aside0.mk (below_step (gB HB.out) hb); clear HB; have HB := n0_; clear n0_; (try clear hb); (try clear hb2); (try clear hk); (try clear hi)))
  (try simp only [Act.put, eA_, e0_, eS_])
  go_cut [44] (fun v44 wc => ∃ (kq : Nat) (x44_5 : Bool), v44 = .bool x44_5 ∧ Aside0 (laws_FnBlockXor.j0 kq t144 t145 t146 t147 t148 t149 x44_5 = some true) ∧ Aside0 (kq ≤ k) ∧ Aside0 (Below w.heap.size w wc))
  case first =>
   have H := HC6.out
   clear HC6
   by_cases c10 : t146.toList = t148.toList
   ·rw [if_pos c10] at H
    have c10b0 : (t146.toList == t148.toList) = true := beq_iff_eq.mpr c10
    have c10b1 : (t146.toList != t148.toList) = false := bne_eq_false_iff_eq.mpr c10
    clear c10
    (first | rw [c10b0] | (simp only [i64_w, i32_w]; rw [c10b0]) | skip)
    by_cases c11 : (t147 != t149) = true
    ·rw [if_pos c11] at H
     have c11b0 : (t147 != t149) = true := c11
     (try (have c11b1 : decide (t147 = t149) = false := by simpa using c11))
     (try (have c11b2 : (t147 == t149) = false := by simpa using c11))
     (try (have c11b3 : ¬ (t147 = t149) := by simpa using c11))
     clear c11
     have H' := Aside0.mk H
     clear H
     go_wp2
     all_goals
      go_meet
      case rel => exact ⟨_, (true), (by first | rfl | (simp; done) | (simp [*]; done) | (simp [wrap64]; done)), H', ⟨by first | omega | exact Nat.le_refl _⟩, ⟨by repeat (first | (with_reducible first | exact HB.out | apply below_alloc | apply pw_below_drewN | apply below_drew1) | exact HB.out)⟩⟩
    ·rw [if_neg c11] at H
     have c11b0 : (t147 != t149) = false := by simpa using c11
     (try (have c11b1 : decide (t147 = t149) = true := by simpa using c11))
     (try (have c11b2 : (t147 == t149) = true := by simpa using c11))
     clear c11
     have H' := Aside0.mk H
     clear H
     go_wp2
     all_goals
      go_meet
      case rel => exact ⟨_, (!t147), (by first | rfl | (simp; done) | (simp [*]; done) | (simp [wrap64]; done)), H', ⟨by first | omega | exact Nat.le_refl _⟩, ⟨by repeat (first | (with_reducible first | exact HB.out | apply below_alloc | apply pw_below_drewN | apply below_drew1) | exact HB.out)⟩⟩
   ·rw [if_neg c10] at H
    have c10b0 : (t146.toList == t148.toList) = false := beq_eq_false_iff_ne.mpr c10
    have c10b1 : (t146.toList != t148.toList) = true := bne_iff_ne.mpr c10
    (first | rw [c10b0] | (simp only [i64_w, i32_w]; rw [c10b0]) | skip)
    have H' := Aside0.mk H
    clear H
    go_wp2
    all_goals
     go_meet
     case rel => exact ⟨_, (true), (by first | rfl | (simp; done) | (simp [*]; done) | (simp [wrap64]; done)), H', ⟨by first | omega | exact Nat.le_refl _⟩, ⟨by repeat (first | (with_reducible first | exact HB.out | apply below_alloc | apply pw_below_drewN | apply below_drew1) | exact HB.out)⟩⟩
  case rest =>
   clear HC6
   try clear c1
   try clear c2
   try clear c2b0
   try clear c2b1
   try clear p2
   try clear c4
   try clear c10
   try clear c10b0
   try clear c10b1
   try clear c11
   try clear c11b0
   try clear c11b1
   try clear c11b2
   obtain ⟨kq, x44_5, rfl, HA, HJ5, HB⟩ := hcut
   cases kq with
   | zero => exact absurd HA.out (by simp [laws_FnBlockXor.j0])
   | succ kj5 =>
    have H := HA.out
    clear HA
    simp only [laws_FnBlockXor.j0] at H
    by_cases c12 : x44_5 = true
    ·subst c12
     have H1 : (if t146.toList = t148.toList then (some (t147 == t149)) else (some false)) = some true := by rw [if_pos rfl] at H; exact H
     clear H
     have H := H1
     clear H1
     by_cases c13 : t146.toList = t148.toList
     ·rw [if_pos c13] at H
      have c13b0 : (t146.toList == t148.toList) = true := beq_iff_eq.mpr c13
      have c13b1 : (t146.toList != t148.toList) = false := bne_eq_false_iff_eq.mpr c13
      clear c13
      have hres_ := Option.some.inj H
      clear H
      go_wp2
      go_ret
      exact ⟨by first | rfl | (simp [errW_none, errW_some] <;> rfl) | (simp [*, errW_none, errW_some] <;> rfl), by repeat (first | (with_reducible first | exact HB.out | apply below_alloc | apply pw_below_drewN | apply below_drew1) | exact HB.out)⟩
     ·rw [if_neg c13] at H
      have c13b0 : (t146.toList == t148.toList) = false := beq_eq_false_iff_ne.mpr c13
      have c13b1 : (t146.toList != t148.toList) = true := bne_iff_ne.mpr c13
      exact absurd H (by simp)
    ·replace c12 := Bool.eq_false_iff.mpr c12
     subst c12
     have H1 : ((impl_BlockXor.f t146 t145).bind fun bt150 => ((impl_BlockXor.f t145 t144).bind fun bt152 => (if bt150.2 = true then (if bt150.1.toList = t144.toList then (if bt152.2 = true then (if bt152.1.toList = t146.toList then (some ((t146.size : Int) == (t144.size : Int))) else (some false)) else (some false)) else (some false)) else (some false)))) = some true := by rw [if_neg (show ¬ (false = true) by decide)] at H; exact H
     clear H
     have H := H1
     clear H1
     replace H := bI_ H
     obtain ⟨⟨t150, t151⟩, A140, H⟩ := H
     replace H : ((impl_BlockXor.f t145 t144).bind fun bt152 => (if t151 = true then (if t150.toList = t144.toList then (if bt152.2 = true then (if bt152.1.toList = t146.toList then (some ((t146.size : Int) == (t144.size : Int))) else (some false)) else (some false)) else (some false)) else (some false))) = some true := H
     have A14 := Aside0.mk A140
     clear A140
     replace H := bI_ H
     obtain ⟨⟨t152, t153⟩, A150, H⟩ := H
     replace H : (if t151 = true then (if t150.toList = t144.toList then (if t153 = true then (if t152.toList = t146.toList then (some ((t146.size : Int) == (t144.size : Int))) else (some false)) else (some false)) else (some false)) else (some false)) = some true := H
     have A15 := Aside0.mk A150
     clear A150
     by_cases c16 : t151 = true
     ·subst c16
      have H1 : (if t150.toList = t144.toList then (if t153 = true then (if t152.toList = t146.toList then (some ((t146.size : Int) == (t144.size : Int))) else (some false)) else (some false)) else (some false)) = some true := by rw [if_pos rfl] at H; exact H
      clear H
      have H := H1
      clear H1
      by_cases c17 : t150.toList = t144.toList
      ·rw [if_pos c17] at H
       have c17b0 : (t150.toList == t144.toList) = true := beq_iff_eq.mpr c17
       have c17b1 : (t150.toList != t144.toList) = false := bne_eq_false_iff_eq.mpr c17
       clear c17
       by_cases c18 : t153 = true
       ·subst c18
        have H1 : (if t152.toList = t146.toList then (some ((t146.size : Int) == (t144.size : Int))) else (some false)) = some true := by rw [if_pos rfl] at H; exact H
        clear H
        have H := H1
        clear H1
        by_cases c19 : t152.toList = t146.toList
        ·rw [if_pos c19] at H
         have c19b0 : (t152.toList == t146.toList) = true := beq_iff_eq.mpr c19
         have c19b1 : (t152.toList != t146.toList) = false := bne_eq_false_iff_eq.mpr c19
         clear c19
         have hres_ := Option.some.inj H
         clear H
         go_wp2_with (first | ((with_reducible refine gate_callee (f := 11) rfl ?_); refine goesL_ (some 56) rfl rfl Try.func11 (by kernel_rfl) rfl #[.string t146, .string t145] rfl (by (try simp only [List.map_toArray, List.map_cons, List.map_nil]); first | done | rfl | (simp only [List.length_drop, List.length_take]; rfl)) ?_; (with_reducible refine (impl_BlockXor.calls t146 t145 t150 true _ A14.out).mono ?_); rintro e w20 ⟨rfl, hb⟩; refine ⟨_, rfl, ?_⟩; have n0_ := Aside0.mk (below_step (gB HB.out) hb); clear HB; have HB := n0_; clear n0_; (try clear hb); (try clear hb2); (try clear hk); (try clear hi)) | ((with_reducible refine gate_callee (f := 11) rfl ?_); refine goesL_ (some 62) rfl rfl Try.func11 (by kernel_rfl) rfl #[.string t145, .string t144] rfl (by (try simp only [List.map_toArray, List.map_cons, List.map_nil]); first | done | rfl | (simp only [List.length_drop, List.length_take]; rfl)) ?_; (with_reducible refine (impl_BlockXor.calls t145 t144 t152 true _ A15.out).mono ?_); rintro e w21 ⟨rfl, hb⟩; refine ⟨_, rfl, ?_⟩; have n0_ := Aside0.mk (below_step (gB HB.out) hb); clear HB; have HB := n0_; clear n0_; (try clear hb); (try clear hb2); (try clear hk); (try clear hi)))
         go_ret
         exact ⟨by first | rfl | (simp [errW_none, errW_some] <;> rfl) | (simp [*, errW_none, errW_some] <;> rfl), by repeat (first | (with_reducible first | exact HB.out | apply below_alloc | apply pw_below_drewN | apply below_drew1) | exact HB.out)⟩
        ·rw [if_neg c19] at H
         have c19b0 : (t152.toList == t146.toList) = false := beq_eq_false_iff_ne.mpr c19
         have c19b1 : (t152.toList != t146.toList) = true := bne_iff_ne.mpr c19
         exact absurd H (by simp)
       ·replace c18 := Bool.eq_false_iff.mpr c18
        subst c18
        have H1 : (some false) = some true := by rw [if_neg (show ¬ (false = true) by decide)] at H; exact H
        clear H
        have H := H1
        clear H1
        exact absurd H (by simp)
      ·rw [if_neg c17] at H
       have c17b0 : (t150.toList == t144.toList) = false := beq_eq_false_iff_ne.mpr c17
       have c17b1 : (t150.toList != t144.toList) = true := bne_iff_ne.mpr c17
       exact absurd H (by simp)
     ·replace c16 := Bool.eq_false_iff.mpr c16
      subst c16
      have H1 : (some false) = some true := by rw [if_neg (show ¬ (false = true) by decide)] at H; exact H
      clear H
      have H := H1
      clear H1
      exact absurd H (by simp)

/-- THE ONE PURE STATEMENT of laws_FnBlockXor: yours. -/
def laws_FnBlockXor.Pure : Prop := ∀ (l0 : List Int), l0.length ≤ maxLen → l0.length * 1 ≤ 140737488351232 → (∀ x ∈ l0, (Lit.int .u8 x).wf = true) → ∃ k, laws_FnBlockXor.f k l0 = some true
theorem laws_FnBlockXor.walk (P : laws_FnBlockXor.Pure) (a0 : Option Addr) (len0 cap0 : Nat) (z0 : List Int) (w : World) (w0 : (a0 = none ∧ len0 = 0 ∧ cap0 = 0 ∧ z0 = []) ∨ ∃ x, a0 = some x ∧ len0 ≤ cap0 ∧ cap0 ≤ maxLen ∧ z0.length = cap0 ∧ (∀ i, i < z0.length → w.cell? (x.add i) = some (.int .u8 (z0.getD i 0))) ∧ ∀ n ∈ z0, (Lit.int .u8 n).wf = true) (y0 : len0 * 1 ≤ 140737488351232) :
 Calls Try.prog 4 #[.slice a0 len0 cap0] w fun e w' => e = .returned (.bool true) ∧ Below w.heap.size w w' := by
 obtain ⟨l0, rfl, hr0, hm0, hw0, hc0⟩ := ReadsInt.ofRowC w0
 obtain ⟨k, h⟩ := P l0 hm0 y0 hw0
 refine (laws_FnBlockXor.calls k _ _ l0 w (Kd.C_of_reads (d := (0 : Int)) (h1 := fun _ => rfl) hr0) hc0 h).mono ?_
 rintro e w' ⟨rfl, hd⟩
 exact ⟨rfl, hd⟩

end Go.Proofs.Ytbgheffgkncpgaa.X
