/- Printed for this claim by the session's program (the kit's printer, several laws in one place): the functions that the law reaches, each as a plain Lean function, and the proof that the Go code comes to its answers. Conditions: none beside those that each theorem states. -/
import Derived.Test.YtmmpkkjaeakplaaXx0
import Derived.Test.YtmmpkkjaeakplaaXx8
namespace Go.Proofs.Ytmmpkkjaeakplaa.X
open Go.RowKit Go.Proofs.YtmmpkkjaeakplaaW.PrintWords Go.Proofs.YtmmpkkjaeakplaaW.PrintLast Go.Proofs.YtmmpkkjaeakplaaW.PrintMore
attribute [local go_sem] max2_int min2_int max_two min_two max_three min_three max_four min_four   -- for this text's walks alone
set_option linter.unusedVariables false
set_option linter.unusedSimpArgs false

/-! ### spec_DrawSeedPick: function 23 -/
def spec_DrawSeedPick.f (k : Nat) (l0 : List Int) : Option (Int × Int) := (spec_l1Open.f l0).bind fun bt159 => ((spec_l15Seed.f k bt159.1 bt159.2).bind fun bt162 => ((spec_l1Rd_pick.f k bt159.1 bt162.2 30).bind fun bt164 => ((some (([wrap64 (1 + bt164.1), 65536, 0, 65537] : List Int) : List Int)).bind fun y166 => ((spec_l1Rd_pick.f k bt159.1 bt164.2 12).bind fun bt169 => (if 0 ≤ (wrap64 (Int.tdiv (wrap64 (bt169.1 * 4)) 12)) then (if (wrap64 (Int.tdiv (wrap64 (bt169.1 * 4)) 12)) < (y166.length : Int) then (some (bt162.1, rd y166 (wrap64 (Int.tdiv (wrap64 (bt169.1 * 4)) 12)))) else (none)) else (none))))))
theorem spec_DrawSeedPick.mono : ∀ a0 k, LeO (spec_DrawSeedPick.f k a0) (spec_DrawSeedPick.f (k + 1) a0) := by
  intro a0 k
  unfold spec_DrawSeedPick.f
  repeat' first
      | (with_reducible exact spec_l15Seed.mono _ _ _)
      | (with_reducible exact spec_l1Rd_pick.mono _ _ _ _)
      | (with_reducible exact LeO.refl _)
      | (with_reducible exact LeO.none _)
      | (with_reducible refine LeO.ite ?_ ?_)
      | (with_reducible refine LeO.bind ?_ (fun _ => ?_))
      | exact spec_l15Seed.mono _ _ _
      | exact spec_l1Rd_pick.mono _ _ _ _
      | exact LeO.none _
      | refine LeO.ite ?_ ?_
      | refine LeO.bind ?_ (fun _ => ?_)
def spec_DrawSeedPick.T2 : Bool × List (List Nat × List Nat) := (true, [([], []), ([0], [0]), ([], []), ([2, 1], [2]), ([3], [3]), ([4], [4]), ([], []), ([6, 3], [6]), ([7], [7]), ([8], [8]), ([5, 9], [5, 9]), ([10], [10]), ([1, 7, 0, 1], [1]), ([11, 12, 0, 1, 2, 3, 4, 5, 6, 7, 8, 9, 10, 11, 12], [11])])
def spec_DrawSeedPick.B2 : List Nat := [0, 1, 0, 7, 15, 31, 0, 79, 207, 463, 1023, 2047, 207, 8191]
theorem spec_DrawSeedPick.tab2 : rtab .any (opsOf Try.f23 2) = spec_DrawSeedPick.T2 := by kernel_rfl
theorem spec_DrawSeedPick.bits2 : waitsOk spec_DrawSeedPick.T2.2 spec_DrawSeedPick.B2 = true := by kernel_rfl
set_option maxHeartbeats 8000000 in
set_option maxRecDepth 100000 in
theorem spec_DrawSeedPick.calls (k : Nat) (A0 : Option Addr) (c0 : Nat) (l0 : List Int) (r1 : Int) (r2 : Int) (w : World) (hr0 : Kd.C (Kd.int .u8) w A0 l0.length l0) (hc0 : l0.length ≤ c0) (h : spec_DrawSeedPick.f k l0 = some (r1, r2)) :
    Calls Try.prog 23 #[.slice A0 l0.length c0] w fun e w' => e = .returned (.tuple #[.int .i64 r1, .int .i64 r2]) ∧ Below w.heap.size w w' := by
  have HR0 := Aside0.mk hr0
  have HC0 := Aside0.mk hc0
  clear hr0 hc0
  have HB := Aside0.mk (Below.refl w.heap.size w)
  have H : ((spec_l1Open.f l0).bind fun bt159 => ((spec_l15Seed.f k bt159.1 bt159.2).bind fun bt162 => ((spec_l1Rd_pick.f k bt159.1 bt162.2 30).bind fun bt164 => ((some (([wrap64 (1 + bt164.1), 65536, 0, 65537] : List Int) : List Int)).bind fun y166 => ((spec_l1Rd_pick.f k bt159.1 bt164.2 12).bind fun bt169 => (if 0 ≤ (wrap64 (Int.tdiv (wrap64 (bt169.1 * 4)) 12)) then (if (wrap64 (Int.tdiv (wrap64 (bt169.1 * 4)) 12)) < (y166.length : Int) then (some (bt162.1, rd y166 (wrap64 (Int.tdiv (wrap64 (bt169.1 * 4)) 12)))) else (none)) else (none))))))) = some (r1, r2) := h
  clear h
  replace H := Option.bind_eq_some_iff.mp H
  obtain ⟨⟨t159, t160⟩, A20, H⟩ := H
  replace H : ((spec_l15Seed.f k t159 t160).bind fun bt162 => ((spec_l1Rd_pick.f k t159 bt162.2 30).bind fun bt164 => ((some (([wrap64 (1 + bt164.1), 65536, 0, 65537] : List Int) : List Int)).bind fun y166 => ((spec_l1Rd_pick.f k t159 bt164.2 12).bind fun bt169 => (if 0 ≤ (wrap64 (Int.tdiv (wrap64 (bt169.1 * 4)) 12)) then (if (wrap64 (Int.tdiv (wrap64 (bt169.1 * 4)) 12)) < (y166.length : Int) then (some (bt162.1, rd y166 (wrap64 (Int.tdiv (wrap64 (bt169.1 * 4)) 12)))) else (none)) else (none)))))) = some (r1, r2) := H
  have A2 := Aside0.mk A20
  clear A20
  replace H := Option.bind_eq_some_iff.mp H
  obtain ⟨⟨t162, t163⟩, A30, H⟩ := H
  replace H : ((spec_l1Rd_pick.f k t159 t163 30).bind fun bt164 => ((some (([wrap64 (1 + bt164.1), 65536, 0, 65537] : List Int) : List Int)).bind fun y166 => ((spec_l1Rd_pick.f k t159 bt164.2 12).bind fun bt169 => (if 0 ≤ (wrap64 (Int.tdiv (wrap64 (bt169.1 * 4)) 12)) then (if (wrap64 (Int.tdiv (wrap64 (bt169.1 * 4)) 12)) < (y166.length : Int) then (some (t162, rd y166 (wrap64 (Int.tdiv (wrap64 (bt169.1 * 4)) 12)))) else (none)) else (none))))) = some (r1, r2) := H
  have A3 := Aside0.mk A30
  clear A30
  replace H := Option.bind_eq_some_iff.mp H
  obtain ⟨⟨t164, t165⟩, A40, H⟩ := H
  replace H : ((some (([wrap64 (1 + t164), 65536, 0, 65537] : List Int) : List Int)).bind fun y166 => ((spec_l1Rd_pick.f k t159 t165 12).bind fun bt169 => (if 0 ≤ (wrap64 (Int.tdiv (wrap64 (bt169.1 * 4)) 12)) then (if (wrap64 (Int.tdiv (wrap64 (bt169.1 * 4)) 12)) < (y166.length : Int) then (some (t162, rd y166 (wrap64 (Int.tdiv (wrap64 (bt169.1 * 4)) 12)))) else (none)) else (none)))) = some (r1, r2) := H
  have A4 := Aside0.mk A40
  clear A40
  obtain ⟨y166, hy166⟩ : ∃ y_ : List Int, y_ = (([wrap64 (1 + t164), 65536, 0, 65537] : List Int)) := ⟨_, rfl⟩
  replace H : ((spec_l1Rd_pick.f k t159 t165 12).bind fun bt169 => (if 0 ≤ (wrap64 (Int.tdiv (wrap64 (bt169.1 * 4)) 12)) then (if (wrap64 (Int.tdiv (wrap64 (bt169.1 * 4)) 12)) < (y166.length : Int) then (some (t162, rd y166 (wrap64 (Int.tdiv (wrap64 (bt169.1 * 4)) 12)))) else (none)) else (none))) = some (r1, r2) := by first | (rw [hy166]; with_reducible exact H) | (have H2_ := (Option.bind_some _ _).symm.trans H; rw [hy166]; with_reducible exact H2_) | (have H2_ := (Option.bind_some _ _).symm.trans H; with_reducible exact H2_) | with_reducible exact H | (rw [hy166]; exact H) | exact H
  have Ny166 := Aside0.mk hy166
  clear hy166
  replace H := Option.bind_eq_some_iff.mp H
  obtain ⟨⟨t169, t170⟩, A50, H⟩ := H
  replace H : (if 0 ≤ (wrap64 (Int.tdiv (wrap64 (t169 * 4)) 12)) then (if (wrap64 (Int.tdiv (wrap64 (t169 * 4)) 12)) < (y166.length : Int) then (some (t162, rd y166 (wrap64 (Int.tdiv (wrap64 (t169 * 4)) 12)))) else (none)) else (none)) = some (r1, r2) := H
  have A5 := Aside0.mk A50
  clear A50
  obtain ⟨ji6, hji6⟩ : ∃ j_ : Int, (wrap64 (Int.tdiv (wrap64 (t169 * 4)) 12)) = j_ := ⟨_, rfl⟩
  replace H : (if 0 ≤ (ji6) then (if (ji6) < (y166.length : Int) then (some (t162, rd y166 (ji6))) else (none)) else (none)) = some (r1, r2) := by first | (rw [hji6] at H; exact H) | (simp only [hji6] at H ⊢; exact H)
  (try rw [hji6] at A2)
  (try rw [hji6] at A3)
  (try rw [hji6] at A4)
  (try rw [hji6] at A5)
  have hji6w : (IntKind.i64.wrap (Int.tdiv (wrap64 (t169 * 4)) 12)) = ji6 := (i64_w _).trans hji6
  by_cases c7 : 0 ≤ (ji6)
  · rw [if_pos c7] at H
    have c7b0 : decide (0 ≤ (ji6)) = true := decide_eq_true c7
    clear c7
    by_cases c8 : (ji6) < (y166.length : Int)
    · rw [if_pos c8] at H
      have c8b0 : decide ((ji6) < (y166.length : Int)) = true := decide_eq_true c8
      clear c8
      simp only [Option.some.injEq, Prod.mk.injEq] at H
      obtain ⟨rfl, rfl⟩ := H
      go_enter Try.func23, Try.ntmps23
      try go_wp2_with (first | ((with_reducible refine gate_callee (f := 57) rfl ?_); refine goesL_ (some 6) rfl rfl Try.func57 (by kernel_rfl) rfl #[.slice A0 l0.length c0] rfl (by (try simp only [List.map_toArray, List.map_cons, List.map_nil]); first | done | rfl | (simp only [List.length_drop, List.length_take]; rfl)) ?_; (with_reducible refine (spec_l1Open.calls _ _ l0 t159 t160 w _ ?side1 ?side2 ?side3 A2.out).mono ?_); (case side1 => repeat (first | (with_reducible first | exact HB.out | apply below_alloc | apply pw_below_drewN | apply below_drew1) | exact HB.out)); (case side2 => exact HR0.out); (case side3 => exact HC0.out); rintro e w9 ⟨g161, rfl, hi, hb, hb2⟩; refine ⟨_, rfl, ?_⟩; have n0_ := Aside0.mk (hb); have n1_ := Aside0.mk (hi); clear HB; have HB := n0_; have HI161 := n1_; clear n0_ n1_; (try clear hb); (try clear hb2); (try clear hk); (try clear hi)))
      have pi171 : (0 ≤ ((ji6) : Int)) = True := eq_true (of_decide_eq_true (by first | (with_reducible assumption) | assumption))
      have qi171 : ((ji6) < (y166.length : Int)) = True := eq_true (of_decide_eq_true (by first | (with_reducible assumption) | assumption))
      have n0_ := Aside0.mk (IsS67.drew HI161.out)
      have n1_ := Aside0.mk (below_drew1 HB.out)
      clear HI161
      clear HB
      have HI161 := n0_
      have HB := n1_
      clear n0_ n1_
      refine start_ (n := 14) (S := fun w' => True) (ds := []) #[false, false, false, false, false, false, false, false, false, false, false, false, false, false] (by kernel_rfl) rfl rfl trivial (fun hHeld => ?_); refine with_tabW spec_DrawSeedPick.tab2 spec_DrawSeedPick.bits2 (fun HT_ HW_ => ?_)
      generalize w9.drew = w10 at HI161 HB hHeld ⊢
      refine pure_ (i := 0) (N := some 7) (v := ?_) (a' := ?_) #[true, false, false, false, false, false, false, false, false, false, false, false, false, false] rfl rfl (any_of HT_.out (by kernel_rfl)) (fun _ _ _ h => h) (Or.inl ⟨by rfl, ?_⟩) ?_ ?_
      rotate_left
      · intro w'
        go_simp
        with_reducible rfl
      rotate_left
      · simp only [Act.put, List.setIfInBounds_toArray, List.set_cons_zero, List.set_cons_succ, i64_w, i32_w]
        rfl
      refine pure_ (i := 2) (N := some 9) (v := ?_) (a' := ?_) #[true, false, true, false, false, false, false, false, false, false, false, false, false, false] rfl rfl (any_of HT_.out (by kernel_rfl)) (fun _ _ _ h => h) (Or.inl ⟨by rfl, ?_⟩) ?_ ?_
      rotate_left
      · intro w'
        go_simp
        with_reducible rfl
      rotate_left
      · simp only [Act.put, List.setIfInBounds_toArray, List.set_cons_zero, List.set_cons_succ, i64_w, i32_w]
        rfl
      refine pure_ (i := 6) (N := some 13) (v := ?_) (a' := ?_) #[true, false, true, false, false, false, true, false, false, false, false, false, false, false] rfl rfl (any_of HT_.out (by kernel_rfl)) (fun _ _ _ h => h) (Or.inl ⟨by rfl, ?_⟩) ?_ ?_
      rotate_left
      · intro w'
        go_simp
        with_reducible rfl
      rotate_left
      · simp only [Act.put, List.setIfInBounds_toArray, List.set_cons_zero, List.set_cons_succ, i64_w, i32_w]
        rfl
      refine inv_at [1, 3, 4, 5, 7, 8, 9, 10, 11, 12, 13] (fun a0_ b a w' => ∃ (v167 : Value) (adz_v167 : Addr) (m10_ : Value), a = putSel a0_ b [(1, 8, .int .i64 t162), (3, 10, .int .i64 t164), (4, 11, .int .i64 (wrap64 (1 + t164))), (5, 12, v167), (7, 14, .int .i64 t169), (8, 15, .int .i64 (wrap64 (t169 * 4))), (9, 16, .int .i64 ji6), (10, 17, m10_), (11, 18, .int .i64 (rd y166 (ji6))), (12, 2, .int .i64 t162), (13, 3, .int .i64 (rd y166 (ji6)))] ∧ (b 1 = false → IsS67 w w' g161 t159 t160) ∧ (Below w.heap.size w w') ∧ (b 1 = true → b 3 = false → IsS67 w w' g161 t159 t163) ∧ (b 3 = true → b 7 = false → IsS67 w w' g161 t159 t165) ∧ (b 5 = true → Kd.R (Kd.int .i64) 3 w' w.heap.size (fun _ => True) v167 y166) ∧ (b 5 = true → ∃ c_, (v167 : Value) = .slice (some adz_v167) y166.length c_) ∧ (b 7 = true → IsS67 w w' g161 t159 t170) ∧ (b 10 = true → (m10_ : Value) = .pointer (some (adz_v167.add ((ji6)).toNat)))) HT_.out HW_.out (by kernel_rfl) (by kernel_rfl) ?_ ?_ ?_
      · exact ⟨.bool false, ⟨0, 0, none⟩, .bool false, by simp only [putSel, Bool.false_eq_true, if_false], fun _ => HI161.out, HB.out, fun h_ => absurd h_ (by decide), fun h_ => absurd h_ (by decide), fun h_ => absurd h_ (by decide), fun h_ => absurd h_ (by decide), fun h_ => absurd h_ (by decide), fun h_ => absurd h_ (by decide)⟩
      · skip
        clear HB HI161
        refine steps_cons ?_ ?_
        · rintro b a w' ⟨v167, adz_v167, m10_, ha, Q_HI161, Q_HB, Q_HI161_e1, Q_HI161_e3, Q_HO168, Q_HA_HO168, Q_HI161_e7, Q_X10_⟩ hb_ hon hoff
          refine ⟨_, rfl, fun K hK => ?_⟩
          have e7 : a.tmps[7]? = some (.pointer (some ⟨g161, 0, none⟩)) := by rw [ha]; exact (putSel_off rfl).trans rfl
          replace ha := Aside0.mk ha
          have HI161 := Aside0.mk (Q_HI161 hb_)
          have HB := Aside0.mk Q_HB
          refine goes_ Try.func58 (by kernel_rfl) rfl #[.pointer (some ⟨g161, 0, none⟩)] (by rfl) rfl rfl (by first | (simp only [List.map_toArray, List.map_cons, List.map_nil, Act.eval, Array.getD_eq_getD_getElem?, Option.getD_some, e7]; done) | (simp only [List.map_toArray, List.map_cons, List.map_nil, Act.eval, Array.getD_eq_getD_getElem?, Option.getD_some, e7]; rfl)) ?_
          with_reducible refine (spec_l15Seed.calls k g161 t159 t160 t162 t163 w _ ?side1 ?side2 A3.out).mono ?_
          (case side1 => repeat (first | (with_reducible first | exact HI161.out | apply IsS67.alloc | apply IsS67.drewN | apply IsS67.drew | apply IsS67.set_1) | exact HI161.out))
          (case side2 => repeat (first | (with_reducible first | exact HB.out | apply below_alloc | apply pw_below_drewN | apply below_drew1 | refine below_set ?_ (IsS67.ge HI161.out)) | exact HB.out))
          rintro e w11 ⟨rfl, hi, hb, hk⟩
          refine ⟨_, rfl, ?_⟩
          have n0_ := Aside0.mk (hb)
          have n1_ := Aside0.mk (hi)
          clear HB
          clear HI161
          have HB := n0_
          have HI161 := n1_
          clear n0_ n1_
          (try clear hb)
          (try clear hb2)
          (try clear hk)
          (try clear hi)
          refine hK.out _ _ ⟨v167, adz_v167, m10_, (by rw [ha.out]; exact putSel_upk 0 hb_ rfl rfl rfl), fun h0_ => absurd ((up_self b 1).symm.trans h0_) (by decide), (by repeat (first | (with_reducible first | exact HB.out | apply below_alloc | apply pw_below_drewN | apply below_drew1 | refine below_set ?_ (IsS67.ge HI161.out)) | exact HB.out)), fun _ _ => (by repeat (first | (with_reducible first | exact HI161.out | apply IsS67.alloc | apply IsS67.drewN | apply IsS67.drew | apply IsS67.set_1) | exact HI161.out)), fun h0_ _ => absurd ((hoff 3 (by kernel_rfl)).symm.trans h0_) (by decide), fun h0_ => absurd ((hoff 5 (by kernel_rfl)).symm.trans h0_) (by decide), fun h0_ => absurd ((hoff 5 (by kernel_rfl)).symm.trans h0_) (by decide), fun h0_ => absurd ((hoff 7 (by kernel_rfl)).symm.trans h0_) (by decide), fun h0_ => absurd ((hoff 10 (by kernel_rfl)).symm.trans h0_) (by decide)⟩
        refine steps_cons ?_ ?_
        · rintro b a w' ⟨v167, adz_v167, m10_, ha, Q_HI161, Q_HB, Q_HI161_e1, Q_HI161_e3, Q_HO168, Q_HA_HO168, Q_HI161_e7, Q_X10_⟩ hb_ hon hoff
          refine ⟨_, rfl, fun K hK => ?_⟩
          have e9 : a.tmps[9]? = some (.pointer (some ⟨g161, 0, none⟩)) := by rw [ha]; exact (putSel_off rfl).trans rfl
          replace ha := Aside0.mk ha
          have HB := Aside0.mk Q_HB
          have HI161 := Aside0.mk (Q_HI161_e1 (hon 1 (by kernel_rfl)) hb_)
          refine goes_ Try.func59 (by kernel_rfl) rfl #[.pointer (some ⟨g161, 0, none⟩), .int .i64 30] (by rfl) rfl rfl (by first | (simp only [List.map_toArray, List.map_cons, List.map_nil, Act.eval, Array.getD_eq_getD_getElem?, Option.getD_some, e9]; done) | (simp only [List.map_toArray, List.map_cons, List.map_nil, Act.eval, Array.getD_eq_getD_getElem?, Option.getD_some, e9]; rfl)) ?_
          with_reducible refine (spec_l1Rd_pick.calls k g161 t159 t163 30 t164 t165 w _ ?side1 ?side2 A4.out).mono ?_
          (case side1 => repeat (first | (with_reducible first | exact HI161.out | apply IsS67.alloc | apply IsS67.drewN | apply IsS67.drew | apply IsS67.set_1) | exact HI161.out))
          (case side2 => repeat (first | (with_reducible first | exact HB.out | apply below_alloc | apply pw_below_drewN | apply below_drew1 | refine below_set ?_ (IsS67.ge HI161.out)) | exact HB.out))
          rintro e w13 ⟨rfl, hi, hb, hk⟩
          refine ⟨_, rfl, ?_⟩
          have n0_ := Aside0.mk (hb)
          have n1_ := Aside0.mk (hi)
          clear HB
          clear HI161
          have HB := n0_
          have HI161 := n1_
          clear n0_ n1_
          (try clear hb)
          (try clear hb2)
          (try clear hk)
          (try clear hi)
          refine hK.out _ _ ⟨v167, adz_v167, m10_, (by rw [ha.out]; exact putSel_upk 1 hb_ rfl rfl rfl), fun h0_ => absurd ((hon 1 (by kernel_rfl)).symm.trans h0_) (by decide), (by repeat (first | (with_reducible first | exact HB.out | apply below_alloc | apply pw_below_drewN | apply below_drew1 | refine below_set ?_ (IsS67.ge HI161.out)) | exact HB.out)), fun _ h1_ => absurd ((up_self b 3).symm.trans h1_) (by decide), fun _ _ => (by repeat (first | (with_reducible first | exact HI161.out | apply IsS67.alloc | apply IsS67.drewN | apply IsS67.drew | apply IsS67.set_1) | exact HI161.out)), fun h0_ => absurd ((hoff 5 (by kernel_rfl)).symm.trans h0_) (by decide), fun h0_ => absurd ((hoff 5 (by kernel_rfl)).symm.trans h0_) (by decide), fun h0_ => absurd ((hoff 7 (by kernel_rfl)).symm.trans h0_) (by decide), fun h0_ => absurd ((hoff 10 (by kernel_rfl)).symm.trans h0_) (by decide)⟩
        refine steps_cons ?_ ?_
        · rintro b a w' ⟨v167, adz_v167, m10_, ha, Q_HI161, Q_HB, Q_HI161_e1, Q_HI161_e3, Q_HO168, Q_HA_HO168, Q_HI161_e7, Q_X10_⟩ hb_ hon hoff
          refine ⟨_, rfl, fun K hK => ?_⟩
          have e10 : a.tmps[10]? = some (.int .i64 t164) := by rw [ha]; exact putSel_on (e := (3, 10, .int .i64 t164)) 1 rfl rfl (hon 3 (by kernel_rfl)) rfl
          replace ha := Aside0.mk ha
          have HB := Aside0.mk Q_HB
          refine value_ (w1 := w') (v := .int .i64 (wrap64 (1 + t164))) (by rfl) rfl ?_ ?_
          · go_simp
            (try simp only [i64_w])
            try rfl
          refine hK.out _ _ ⟨v167, adz_v167, m10_, (by rw [ha.out]; exact putSel_upk 2 hb_ rfl rfl rfl), fun h0_ => absurd ((hon 1 (by kernel_rfl)).symm.trans h0_) (by decide), Q_HB, fun _ h1_ => absurd ((hon 3 (by kernel_rfl)).symm.trans h1_) (by decide), Q_HI161_e3, fun h0_ => absurd ((hoff 5 (by kernel_rfl)).symm.trans h0_) (by decide), fun h0_ => absurd ((hoff 5 (by kernel_rfl)).symm.trans h0_) (by decide), Q_HI161_e7, fun h0_ => absurd ((hoff 10 (by kernel_rfl)).symm.trans h0_) (by decide)⟩
        refine steps_cons ?_ ?_
        · rintro b a w' ⟨v167, adz_v167, m10_, ha, Q_HI161, Q_HB, Q_HI161_e1, Q_HI161_e3, Q_HO168, Q_HA_HO168, Q_HI161_e7, Q_X10_⟩ hb_ hon hoff
          refine ⟨_, rfl, fun K hK => ?_⟩
          have e11 : a.tmps[11]? = some (.int .i64 (wrap64 (1 + t164))) := by rw [ha]; exact putSel_on (e := (4, 11, .int .i64 (wrap64 (1 + t164)))) 2 rfl rfl (hon 4 (by kernel_rfl)) rfl
          replace ha := Aside0.mk ha
          have HB := Aside0.mk Q_HB
          refine Kd.R_lit_step (Kd.int .i64) _ 3 ?hg (N := 12) ?hd (xs := ([wrap64 (1 + t164), 65536, 0, 65537] : List Int)) (inner := [.int .i64 (wrap64 (1 + t164)), .int .i64 65536, .int .i64 0, .int .i64 65537]) (ok := fun _ => True) (okp := fun _ => True) ?hr ?hp (fun _ hk => hk) trivial (Below.refl _ _) (Nat.le_refl _) (by simp) ?_; (case hd => rfl); (case hg => rfl); (case hr => first | (go_simp; done) | (go_simp; rfl)); (case hp => exact (Reps.one (show Kd.M (Kd.int .i64) _ _ _ (wrap64 (1 + t164)) [.int .i64 (wrap64 (1 + t164))] from rfl) (Reps.one (show Kd.M (Kd.int .i64) _ _ _ 65536 [.int .i64 65536] from rfl) (Reps.one (show Kd.M (Kd.int .i64) _ _ _ 0 [.int .i64 0] from rfl) (Reps.one (show Kd.M (Kd.int .i64) _ _ _ 65537 [.int .i64 65537] from rfl) (Reps.none _ _))))))
          intro v167 w14 ho15 hb hg_ hnew_
          clear hg_ hnew_
          (first | rw [← Ny166.out] at ho15 | (simp only [Int.reduceToNat] at ho15; rw [← Ny166.out] at ho15))
          have n0_ := Aside0.mk (Kd.R_lower ho15 (below_size (by repeat (first | (with_reducible first | exact HB.out | apply below_alloc | apply pw_below_drewN | apply below_drew1) | exact HB.out))))
          have n2_ := Aside0.mk (below_step (by repeat (first | (with_reducible first | exact HB.out | apply below_alloc | apply pw_below_drewN | apply below_drew1) | exact HB.out)) hb)
          have z_HI161_e3 := fun (h0_ : b 3 = true) (h1_ : b 7 = false) => (show IsS67 w w14 g161 t159 t165 from by first | exact (IsS67.below (by repeat (first | (with_reducible first | exact (Q_HI161_e3 h0_ h1_) | apply IsS67.alloc | apply IsS67.drewN | apply IsS67.drew | apply IsS67.set_1) | exact (Q_HI161_e3 h0_ h1_))) hb))
          have z_HI161_e7 := fun (h0_ : b 7 = true) => (show IsS67 w w14 g161 t159 t170 from by first | exact (IsS67.below (by repeat (first | (with_reducible first | exact (Q_HI161_e7 h0_) | apply IsS67.alloc | apply IsS67.drewN | apply IsS67.drew | apply IsS67.set_1) | exact (Q_HI161_e7 h0_))) hb))
          clear HB
          have HO168 := n0_
          have HB := n2_
          clear n0_ n2_
          clear hb ho15
          obtain ⟨Ao16, co16, eo16⟩ := Kd.R_slice HO168.out
          subst eo16
          obtain ⟨ado16, fo16, _⟩ := Kd.at_int (Kd.R_reads' HO168.out).2.2 0 (by decide) (by rw [Ny166.out]; simp)
          cases fo16
          refine hK.out _ _ ⟨.slice (some ado16) y166.length co16, ado16, m10_, (by rw [ha.out]; exact putSel_upk 3 hb_ rfl rfl rfl), fun h0_ => absurd ((hon 1 (by kernel_rfl)).symm.trans h0_) (by decide), (by repeat (first | (with_reducible first | exact HB.out | apply below_alloc | apply pw_below_drewN | apply below_drew1) | exact HB.out)), fun _ h1_ => absurd ((hon 3 (by kernel_rfl)).symm.trans h1_) (by decide), z_HI161_e3, fun _ => (by (with_reducible repeat (first | apply Kd.R_alloc | apply Kd.R_drewN | apply Kd.R_drew)); exact HO168.out), fun _ => ⟨_, rfl⟩, z_HI161_e7, fun h0_ => absurd ((hoff 10 (by kernel_rfl)).symm.trans h0_) (by decide)⟩
        refine steps_cons ?_ ?_
        · rintro b a w' ⟨v167, adz_v167, m10_, ha, Q_HI161, Q_HB, Q_HI161_e1, Q_HI161_e3, Q_HO168, Q_HA_HO168, Q_HI161_e7, Q_X10_⟩ hb_ hon hoff
          refine ⟨_, rfl, fun K hK => ?_⟩
          have e13 : a.tmps[13]? = some (.pointer (some ⟨g161, 0, none⟩)) := by rw [ha]; exact (putSel_off rfl).trans rfl
          replace ha := Aside0.mk ha
          have HB := Aside0.mk Q_HB
          have HI161 := Aside0.mk (Q_HI161_e3 (hon 3 (by kernel_rfl)) hb_)
          refine goes_ Try.func59 (by kernel_rfl) rfl #[.pointer (some ⟨g161, 0, none⟩), .int .i64 12] (by rfl) rfl rfl (by first | (simp only [List.map_toArray, List.map_cons, List.map_nil, Act.eval, Array.getD_eq_getD_getElem?, Option.getD_some, e13]; done) | (simp only [List.map_toArray, List.map_cons, List.map_nil, Act.eval, Array.getD_eq_getD_getElem?, Option.getD_some, e13]; rfl)) ?_
          with_reducible refine (spec_l1Rd_pick.calls k g161 t159 t165 12 t169 t170 w _ ?side1 ?side2 A5.out).mono ?_
          (case side1 => repeat (first | (with_reducible first | exact HI161.out | apply IsS67.alloc | apply IsS67.drewN | apply IsS67.drew | apply IsS67.set_1) | exact HI161.out))
          (case side2 => repeat (first | (with_reducible first | exact HB.out | apply below_alloc | apply pw_below_drewN | apply below_drew1 | refine below_set ?_ (IsS67.ge HI161.out)) | exact HB.out))
          rintro e w14 ⟨rfl, hi, hb, hk⟩
          refine ⟨_, rfl, ?_⟩
          have n0_ := Aside0.mk (hb)
          have n1_ := Aside0.mk (hi)
          have z_HO168 := fun (h0_ : b 5 = true) => (show Kd.R (Kd.int .i64) 3 w14 w.heap.size (fun _ => True) v167 y166 from by first | exact (Kd.R_mono (Kd.R_keep (IsS67.apart (show IsS67 w _ g161 t159 t165 from by repeat (first | (with_reducible first | exact HI161.out | apply IsS67.alloc | apply IsS67.drewN | apply IsS67.drew | apply IsS67.set_1) | exact HI161.out)) (by (with_reducible repeat (first | apply Kd.R_alloc | apply Kd.R_drewN | apply Kd.R_drew)); exact (Q_HO168 h0_)) (by decide)) hk (fun _ h => h.2)) (fun _ h => h.1)) | exact Kd.R_mono (Kd.R_mono (Kd.R_keep (IsS67.apart (show IsS67 w _ g161 t159 t165 from by repeat (first | (with_reducible first | exact HI161.out | apply IsS67.alloc | apply IsS67.drewN | apply IsS67.drew | apply IsS67.set_1) | exact HI161.out)) (by (with_reducible repeat (first | apply Kd.R_alloc | apply Kd.R_drewN | apply Kd.R_drew)); exact (Q_HO168 h0_)) (by decide)) hk (fun _ h => h.2)) (fun _ h => h.1)) (fun _ h_ => by first | trivial | exact h_ | exact h_.1))
          clear HB
          clear HI161
          have HB := n0_
          have HI161 := n1_
          clear n0_ n1_
          (try clear hb)
          (try clear hb2)
          (try clear hk)
          (try clear hi)
          refine hK.out _ _ ⟨v167, adz_v167, m10_, (by rw [ha.out]; exact putSel_upk 4 hb_ rfl rfl rfl), fun h0_ => absurd ((hon 1 (by kernel_rfl)).symm.trans h0_) (by decide), (by repeat (first | (with_reducible first | exact HB.out | apply below_alloc | apply pw_below_drewN | apply below_drew1 | refine below_set ?_ (IsS67.ge HI161.out)) | exact HB.out)), fun _ h1_ => absurd ((hon 3 (by kernel_rfl)).symm.trans h1_) (by decide), fun _ h1_ => absurd ((up_self b 7).symm.trans h1_) (by decide), z_HO168, Q_HA_HO168, fun _ => (by repeat (first | (with_reducible first | exact HI161.out | apply IsS67.alloc | apply IsS67.drewN | apply IsS67.drew | apply IsS67.set_1) | exact HI161.out)), fun h0_ => absurd ((hoff 10 (by kernel_rfl)).symm.trans h0_) (by decide)⟩
        refine steps_cons ?_ ?_
        · rintro b a w' ⟨v167, adz_v167, m10_, ha, Q_HI161, Q_HB, Q_HI161_e1, Q_HI161_e3, Q_HO168, Q_HA_HO168, Q_HI161_e7, Q_X10_⟩ hb_ hon hoff
          refine ⟨_, rfl, fun K hK => ?_⟩
          have e14 : a.tmps[14]? = some (.int .i64 t169) := by rw [ha]; exact putSel_on (e := (7, 14, .int .i64 t169)) 4 rfl rfl (hon 7 (by kernel_rfl)) rfl
          replace ha := Aside0.mk ha
          have HB := Aside0.mk Q_HB
          have HI161 := Aside0.mk (Q_HI161_e7 (hon 7 (by kernel_rfl)))
          refine value_ (w1 := w') (v := .int .i64 (wrap64 (t169 * 4))) (by rfl) rfl ?_ ?_
          · go_simp
            (try simp only [i64_w])
            try rfl
          refine hK.out _ _ ⟨v167, adz_v167, m10_, (by rw [ha.out]; exact putSel_upk 5 hb_ rfl rfl rfl), fun h0_ => absurd ((hon 1 (by kernel_rfl)).symm.trans h0_) (by decide), Q_HB, fun _ h1_ => absurd ((hon 3 (by kernel_rfl)).symm.trans h1_) (by decide), fun _ h1_ => absurd ((hon 7 (by kernel_rfl)).symm.trans h1_) (by decide), Q_HO168, Q_HA_HO168, Q_HI161_e7, fun h0_ => absurd ((hoff 10 (by kernel_rfl)).symm.trans h0_) (by decide)⟩
        refine steps_cons ?_ ?_
        · rintro b a w' ⟨v167, adz_v167, m10_, ha, Q_HI161, Q_HB, Q_HI161_e1, Q_HI161_e3, Q_HO168, Q_HA_HO168, Q_HI161_e7, Q_X10_⟩ hb_ hon hoff
          refine ⟨_, rfl, fun K hK => ?_⟩
          have e15 : a.tmps[15]? = some (.int .i64 (wrap64 (t169 * 4))) := by rw [ha]; exact putSel_on (e := (8, 15, .int .i64 (wrap64 (t169 * 4)))) 5 rfl rfl (hon 8 (by kernel_rfl)) rfl
          replace ha := Aside0.mk ha
          have HB := Aside0.mk Q_HB
          have HI161 := Aside0.mk (Q_HI161_e7 (hon 7 (by kernel_rfl)))
          refine value_ (w1 := w') (v := .int .i64 ji6) (by rfl) rfl ?_ ?_
          · go_simp
            (try simp only [i64_w])
            try rfl
          refine hK.out _ _ ⟨v167, adz_v167, m10_, (by rw [ha.out]; exact putSel_upk 6 hb_ rfl rfl rfl), fun h0_ => absurd ((hon 1 (by kernel_rfl)).symm.trans h0_) (by decide), Q_HB, fun _ h1_ => absurd ((hon 3 (by kernel_rfl)).symm.trans h1_) (by decide), fun _ h1_ => absurd ((hon 7 (by kernel_rfl)).symm.trans h1_) (by decide), Q_HO168, Q_HA_HO168, Q_HI161_e7, fun h0_ => absurd ((hoff 10 (by kernel_rfl)).symm.trans h0_) (by decide)⟩
        refine steps_cons ?_ ?_
        · rintro b a w' ⟨v167, adz_v167, m10_, ha, Q_HI161, Q_HB, Q_HI161_e1, Q_HI161_e3, Q_HO168, Q_HA_HO168, Q_HI161_e7, Q_X10_⟩ hb_ hon hoff
          refine ⟨_, rfl, fun K hK => ?_⟩
          have e12 : a.tmps[12]? = some (v167) := by rw [ha]; exact putSel_on (e := (5, 12, v167)) 3 rfl rfl (hon 5 (by kernel_rfl)) rfl
          have e16 : a.tmps[16]? = some (.int .i64 ji6) := by rw [ha]; exact putSel_on (e := (9, 16, .int .i64 ji6)) 6 rfl rfl (hon 9 (by kernel_rfl)) rfl
          replace ha := Aside0.mk ha
          have HB := Aside0.mk Q_HB
          have HO168 := Aside0.mk (Q_HO168 (hon 5 (by kernel_rfl)))
          have HA_HO168 := Aside0.mk (Q_HA_HO168 (hon 5 (by kernel_rfl)))
          have HI161 := Aside0.mk (Q_HI161_e7 (hon 7 (by kernel_rfl)))
          obtain ⟨c_, hv_⟩ := HA_HO168.out
          rw [hv_] at e12
          refine value_ (w1 := w') (v := .pointer (some (adz_v167.add ((ji6)).toNat))) (by rfl) rfl ?_ ?_
          · go_simp
            (try simp only [i64_w])
            try rfl
          refine hK.out _ _ ⟨v167, adz_v167, (.pointer (some (adz_v167.add ((ji6)).toNat))), (by rw [ha.out]; exact putSel_upk 7 hb_ rfl rfl rfl), fun h0_ => absurd ((hon 1 (by kernel_rfl)).symm.trans h0_) (by decide), Q_HB, fun _ h1_ => absurd ((hon 3 (by kernel_rfl)).symm.trans h1_) (by decide), fun _ h1_ => absurd ((hon 7 (by kernel_rfl)).symm.trans h1_) (by decide), Q_HO168, Q_HA_HO168, Q_HI161_e7, fun _ => rfl⟩
        refine steps_cons ?_ ?_
        · rintro b a w' ⟨v167, adz_v167, m10_, ha, Q_HI161, Q_HB, Q_HI161_e1, Q_HI161_e3, Q_HO168, Q_HA_HO168, Q_HI161_e7, Q_X10_⟩ hb_ hon hoff
          refine ⟨_, rfl, fun K hK => ?_⟩
          have e17 : a.tmps[17]? = some (m10_) := by rw [ha]; exact putSel_on (e := (10, 17, m10_)) 7 rfl rfl (hon 10 (by kernel_rfl)) rfl
          rw [Q_X10_ (hon 10 (by kernel_rfl))] at e17
          replace ha := Aside0.mk ha
          have HB := Aside0.mk Q_HB
          have HO168 := Aside0.mk (Q_HO168 (hon 5 (by kernel_rfl)))
          have HA_HO168 := Aside0.mk (Q_HA_HO168 (hon 5 (by kernel_rfl)))
          have HI161 := Aside0.mk (Q_HI161_e7 (hon 7 (by kernel_rfl)))
          obtain ⟨c_, hv_⟩ := HA_HO168.out
          have hF_ := HO168.out
          rw [hv_] at hF_
          obtain ⟨ad_, ea_, hx_⟩ := Kd.at_int (Kd.R_reads' hF_).2.2 (ji6) (of_eq_true pi171) (of_eq_true qi171)
          cases ea_
          refine value_ (w1 := w') (v := .int .i64 (rd y166 (ji6))) (by rfl) rfl ?_ ?_
          · go_simp
            (try simp only [i64_w])
            try rfl
          refine hK.out _ _ ⟨v167, adz_v167, m10_, (by rw [ha.out]; exact putSel_upk 8 hb_ rfl rfl rfl), fun h0_ => absurd ((hon 1 (by kernel_rfl)).symm.trans h0_) (by decide), Q_HB, fun _ h1_ => absurd ((hon 3 (by kernel_rfl)).symm.trans h1_) (by decide), fun _ h1_ => absurd ((hon 7 (by kernel_rfl)).symm.trans h1_) (by decide), Q_HO168, Q_HA_HO168, Q_HI161_e7, Q_X10_⟩
        refine steps_cons ?_ ?_
        · rintro b a w' ⟨v167, adz_v167, m10_, ha, Q_HI161, Q_HB, Q_HI161_e1, Q_HI161_e3, Q_HO168, Q_HA_HO168, Q_HI161_e7, Q_X10_⟩ hb_ hon hoff
          refine ⟨_, rfl, fun K hK => ?_⟩
          have e8 : a.tmps[8]? = some (.int .i64 t162) := by rw [ha]; exact putSel_on (e := (1, 8, .int .i64 t162)) 0 rfl rfl (hon 1 (by kernel_rfl)) rfl
          replace ha := Aside0.mk ha
          have HB := Aside0.mk Q_HB
          have HI161 := Aside0.mk (Q_HI161_e7 (hon 7 (by kernel_rfl)))
          refine value_ (w1 := w') (v := .int .i64 t162) (by rfl) rfl ?_ ?_
          · go_simp
            (try simp only [i64_w])
            try rfl
          refine hK.out _ _ ⟨v167, adz_v167, m10_, (by rw [ha.out]; exact putSel_upk 9 hb_ rfl rfl rfl), fun h0_ => absurd ((hon 1 (by kernel_rfl)).symm.trans h0_) (by decide), Q_HB, fun _ h1_ => absurd ((hon 3 (by kernel_rfl)).symm.trans h1_) (by decide), fun _ h1_ => absurd ((hon 7 (by kernel_rfl)).symm.trans h1_) (by decide), Q_HO168, Q_HA_HO168, Q_HI161_e7, Q_X10_⟩
        refine steps_cons ?_ ?_
        · rintro b a w' ⟨v167, adz_v167, m10_, ha, Q_HI161, Q_HB, Q_HI161_e1, Q_HI161_e3, Q_HO168, Q_HA_HO168, Q_HI161_e7, Q_X10_⟩ hb_ hon hoff
          refine ⟨_, rfl, fun K hK => ?_⟩
          have e18 : a.tmps[18]? = some (.int .i64 (rd y166 (ji6))) := by rw [ha]; exact putSel_on (e := (11, 18, .int .i64 (rd y166 (ji6)))) 8 rfl rfl (hon 11 (by kernel_rfl)) rfl
          replace ha := Aside0.mk ha
          have HB := Aside0.mk Q_HB
          have HO168 := Aside0.mk (Q_HO168 (hon 5 (by kernel_rfl)))
          have HA_HO168 := Aside0.mk (Q_HA_HO168 (hon 5 (by kernel_rfl)))
          have HI161 := Aside0.mk (Q_HI161_e7 (hon 7 (by kernel_rfl)))
          refine value_ (w1 := w') (v := .int .i64 (rd y166 (ji6))) (by rfl) rfl ?_ ?_
          · go_simp
            (try simp only [i64_w])
            try rfl
          refine hK.out _ _ ⟨v167, adz_v167, m10_, (by rw [ha.out]; exact putSel_upk 10 hb_ rfl rfl rfl), fun h0_ => absurd ((hon 1 (by kernel_rfl)).symm.trans h0_) (by decide), Q_HB, fun _ h1_ => absurd ((hon 3 (by kernel_rfl)).symm.trans h1_) (by decide), fun _ h1_ => absurd ((hon 7 (by kernel_rfl)).symm.trans h1_) (by decide), Q_HO168, Q_HA_HO168, Q_HI161_e7, Q_X10_⟩
        exact steps_nil
      rintro b a w17 hall ⟨v167, adz_v167, m10_, ha, Q_HI161, Q_HB, Q_HI161_e1, Q_HI161_e3, Q_HO168, Q_HA_HO168, Q_HI161_e7, Q_X10_⟩
      clear HB HI161
      have hb1_ := hall 1 (by kernel_rfl)
      have hb3_ := hall 3 (by kernel_rfl)
      have hb4_ := hall 4 (by kernel_rfl)
      have hb5_ := hall 5 (by kernel_rfl)
      have hb7_ := hall 7 (by kernel_rfl)
      have hb8_ := hall 8 (by kernel_rfl)
      have hb9_ := hall 9 (by kernel_rfl)
      have hb10_ := hall 10 (by kernel_rfl)
      have hb11_ := hall 11 (by kernel_rfl)
      have hb12_ := hall 12 (by kernel_rfl)
      have hb13_ := hall 13 (by kernel_rfl)
      subst ha
      obtain rfl := Q_X10_ hb10_
      simp only [putSel, hb1_, hb3_, hb4_, hb5_, hb7_, hb8_, hb9_, hb10_, hb11_, hb12_, hb13_, if_true, Act.put, List.setIfInBounds_toArray, List.set_cons_zero, List.set_cons_succ]
      clear Q_HI161
      have HB := Aside0.mk Q_HB
      clear Q_HB
      clear Q_HI161_e1
      clear Q_HI161_e3
      have HO168 := Aside0.mk (Q_HO168 hb5_)
      clear Q_HO168
      have HA_HO168 := Aside0.mk (Q_HA_HO168 hb5_)
      clear Q_HA_HO168
      have HI161 := Aside0.mk (Q_HI161_e7 hb7_)
      clear Q_HI161_e7
      clear hall hb1_ hb3_ hb4_ hb5_ hb7_ hb8_ hb9_ hb10_ hb11_ hb12_ hb13_
      obtain ⟨co18, eo18⟩ := HA_HO168.out
      clear HA_HO168
      subst eo18
      try go_wp2
      go_ret2
      exact ⟨by first | rfl | (simp [errW_none, errW_some] <;> rfl) | (simp only [← hji6]; first | rfl | (simp [errW_none, errW_some] <;> rfl)) | (simp [*, errW_none, errW_some] <;> rfl), by repeat (first | (with_reducible first | exact HB.out | apply below_alloc | apply pw_below_drewN | apply below_drew1 | refine below_set ?_ (IsS67.ge HI161.out)) | exact HB.out)⟩
    · rw [if_neg c8] at H
      exact absurd H (by simp)
  · rw [if_neg c7] at H
    exact absurd H (by simp)

/-! ### laws_whIn: function 24 -/
def laws_whIn.f (a0 : Int) (a1 : Int) (a2 : Int) : Option (Bool) := if a0 ≥ a1 then (some (decide (a0 ≤ a2))) else (some false)
set_option maxHeartbeats 8000000 in
set_option maxRecDepth 100000 in
theorem laws_whIn.calls (a0 : Int) (a1 : Int) (a2 : Int) (r : Bool) (w : World) (h : laws_whIn.f a0 a1 a2 = some r) :
    Calls Try.prog 24 #[.int .i64 a0, .int .i64 a1, .int .i64 a2] w fun e w' => e = .returned (.bool r) ∧ Drawn0 w w' := by
  have H : (if a0 ≥ a1 then (some (decide (a0 ≤ a2))) else (some false)) = some r := h
  clear h
  by_cases c4 : a0 ≥ a1
  · rw [if_pos c4] at H
    have c4b0 : decide (a1 ≤ a0) = true := decide_eq_true c4
    clear c4
    obtain rfl := Option.some.inj H
    go_enter Try.func24, Try.ntmps24
    go_wp2
    go_ret
    exact ⟨by first | rfl | (simp; done) | (simp [*]; done) | (simp [wrap64]; done), by repeat (first | exact Drawn0.refl _ | apply Drawn0.step)⟩
  · rw [if_neg c4] at H
    have c4b0 : decide (a1 ≤ a0) = false := decide_eq_false c4
    clear c4
    obtain rfl := Option.some.inj H
    go_enter Try.func24, Try.ntmps24
    go_wp2
    go_ret
    exact ⟨by first | rfl | (simp; done) | (simp [*]; done) | (simp [wrap64]; done), by repeat (first | exact Drawn0.refl _ | apply Drawn0.step)⟩

end Go.Proofs.Ytmmpkkjaeakplaa.X
