/- The statement FnExactPlanWriteCardSaid: for every input the law returns true, and each argument reads behind the call as it read before; what the row lists of package variables is tied to the program's text by the given tie. Conditions: none beside those of the given statement. -/
import Derived.Test.YtbgheffgkncpgaaDoorRows
import Derived.Test.YtbgheffgkncpgaaDoorCards
import Derived.Test.YtbgheffgkncpgaaDoorTie
import Derived.Test.YtbgheffgkncpgaaDoorKpLFnExactPlanWrite
import Derived.Test.YtbgheffgkncpgaaDoorVxD
import Derived.WalkKit
import Derived.ProofKit
import Derived.OpenShut
import Derived.ShutString
import Derived.ChangeOld
import Derived.ChangeVars
import Derived.OpenVars
import Derived.Below
import Derived.SizedLaws
import Derived.LaidMore
import Derived.Stop.Joined
import Derived.SevenTiedAt
import Derived.Lib.LaidTab
namespace Go.Proofs.YtbgheffgkncpgaaDoor.fnExactPlanWrite
open Go.ChangeShapes Go.WideShapes Go.ChangeAt Go.RowKit Go Vx Vx.N Go.Proofs.YtbgheffgkncpgaaDoor.V
open Go.ChangeMaps (open_string shut_string)
set_option linter.unusedVariables false
theorem own : ownKnob Tryd.prog.godebug = none := by kernel_rfl
theorem laidOut : laidOutB Tryd.prog = true := by kernel_rfl
/-- A variable's cells in the heap. -/
theorem var_heap {P : Program} {W : World} {n : String} {g : Nat} {cs : Array Value} (hg : P.globalNamed n = some g) (hv : W.var? P n = some cs) : ∃ t fz, W.heap[g]? = some (.cells cs t fz) := by
  unfold World.var? at hv
  rw [hg, Option.bind_some] at hv
  split at hv
  · rename_i h
    cases hv
    exact ⟨_, _, h⟩
  · cases hv
theorem heap_lt {W : World} {g : Nat} {o : Obj} (h : W.heap[g]? = some o) : g < W.heap.size := (Array.getElem?_eq_some_iff.1 h).1
theorem g2 : Tryd.prog.globalNamed "internal/strconv.uint64pow10" = some 2 := by kernel_rfl
theorem t2 : (Tryd.prog.globals[2]?).map (·.type) = some 101 := by kernel_rfl
/-- What the condition gives: the tables lie in the world. -/
theorem gl_of_laid {W : World} (h : laidMetH Tryd.prog Rows.fnExactPlanWriteRow.laid W) : GlW EKs W [] := by
  rw [MakeChecks.laidMetH_plain _ _ _ (by kernel_rfl)] at h
  obtain ⟨ps, ⟨g7, t7, cs7, f7, p7, q7, hg7, ht7, hv7, hd7, ⟨g8, t8, cs8, f8, p8, q8, hg8, ht8, hv8, hd8, ⟨g2, t2, cs2, f2, p2, q2, hg2, ht2, hv2, hd2, _, _⟩, _⟩, _⟩, _, _⟩ := h
  obtain rfl := Option.some.inj (fnExactPlanWrite.g2.symm.trans hg2)
  obtain rfl := Option.some.inj (fnExactPlanWrite.t2.symm.trans ht2)
  refine ⟨fun n k xs hm => ?_, fun n b hm => by cases hm⟩
  simp only [EKs, List.mem_cons, List.not_mem_nil, or_false, Prod.mk.injEq] at hm
  obtain ⟨rfl, rfl, rfl⟩ := hm
  · obtain ⟨t, fz, hp⟩ := var_heap fnExactPlanWrite.g2 hv2
    have hc : cs2.toList = tab2.map fun z => Value.int _ z := Go.Lib.cells_of_tab Tryd.underlying101 Tryd.underlying61 (by kernel_rfl) (by kernel_rfl) hd2
    refine ⟨⟨heap_lt hp, by simp⟩, t, fz, ?_⟩
    rw [hp, ← hc]
/-- The door's own heap meets the condition. -/
theorem door_met (os : Os) (args : Array Value) : laidMetH Tryd.prog Rows.fnExactPlanWriteRow.laid ((World.doorLaid Tryd.prog 2000 os).forCall (fun _ _ => 0) ⟨#[], args, []⟩).memory :=
  laidMetH_of_parts3 (fuel := 8) (laidMet_of_run' 8 (by kernel_rfl) (by kernel_rfl)) (by kernel_rfl) (by kernel_rfl)
set_option maxRecDepth 100000 in
theorem lifted (os : Os) (started : os.Started) (H : Type) (enc : TypeId × Value → H) :
    ReturnsInHanded {} Tryd.checked os 5 .any (fun w args => (Rows.fnExactPlanWriteSpec.pre enc Tryd.prog Tryd.f5 [] false w args ∧ laidMetH Tryd.prog Rows.fnExactPlanWriteRow.laid w) ∧ sizedMet enc Tryd.prog Tryd.f5 (OpenSpec.ofChange Rows.fnExactPlanWriteSpec) false w args)
      (Rows.fnExactPlanWriteSpec.post enc Tryd.prog Tryd.f5 false true false false) := by
  refine returnsInHanded_of_change_and (C := Tryd.checked) (X := fun w _ => laidMetH Tryd.prog Rows.fnExactPlanWriteRow.laid w) (fun _ _ _ hh h => h.of_heap hh) own started (by kernel_rfl) Tryd.func5
    (ChangeSpec.witness_shaped (enc := enc) (C := Tryd.checked) (os := os) (X := fun w _ => laidMetH Tryd.prog Rows.fnExactPlanWriteRow.laid w) false (World.doorLaid Tryd.prog 2000 os) #[.agg #[.int .i64 0, .int .i64 0, .slice none 0 0, .slice none 0 0]] 8 rfl (World.shaped_of_RefB (by kernel_rfl) (by kernel_rfl)) (by kernel_rfl) (by kernel_rfl) (by kernel_rfl) (door_met os _)) ?_
  intro W base args ds gs before hval0 hW _ _ hL _
  have hval : ∀ (j : Nat) t v, Tryd.f5.params[j]? = some t → args[j]? = some v → Value.okWide Tryd.prog W .any base t v := hval0
  have hW' := hW
  obtain ⟨p, q, hA0, hV, rfl, hfz, hnd⟩ := hW
  have hA : DataW.TrodAll enc Tryd.prog W 0 (fun _ => true) true Tryd.f5.params.toList args.toList ds p := hA0
  rw [Tryd.params5] at hA hval
  obtain ⟨v0, vs0, d0, ds0, p0, q0, hargs, rfl, rfl, h0, r0⟩ := trodAll_cons hA
  obtain ⟨rfl, rfl, rfl⟩ := trodAll_nil r0
  obtain rfl : args = #[v0] := by cases args; simp_all
  have hV : DataW.TrodVars enc Tryd.prog W (fun _ => true) [] gs q := hV
  obtain ⟨rfl, rfl⟩ := trodVars_none hV
  have k0 := h0
  have lt0 : ∀ x ∈ p0, x.block < W.heap.size := by obtain ⟨m, hm⟩ := k0; exact DataW.trod_lt m _ _ _ hm
  obtain ⟨cs0, xs0, rfl, K0, _, _, _, _, rfl, ⟨Lp0, rfl, _⟩, ⟨Zp0, rfl, _⟩, ⟨Wp0, rfl, gw0, _⟩, ⟨Gp0, rfl, gg0, _⟩⟩ := arg_struct (rdg_struct4 Tryd.underlying29 (by kernel_rfl) rfl rfl rfl rfl (rdg_int .i64 Tryd.underlying3 (by kernel_rfl)) (rdg_int .i64 Tryd.underlying3 (by kernel_rfl)) (rdg_ints .i64 Tryd.underlying27 (by kernel_rfl) Tryd.underlying3 (by kernel_rfl)) (rdg_ints .i64 Tryd.underlying27 (by kernel_rfl) Tryd.underlying3 (by kernel_rfl))) Tryd.underlying29 (hval 0 29 v0 rfl rfl) h0
  clear hA0 hval0
  have hpre : ((lenOk Wp0.length && lenOk Gp0.length)) = true := by
    first | rfl | (simp only [Bool.and_eq_true]; exact (by rw [Bool.and_eq_true]; exact ⟨decide_eq_true gw0, decide_eq_true gg0⟩)) | exact (by rw [Bool.and_eq_true]; exact ⟨decide_eq_true gw0, decide_eq_true gg0⟩)
  have hS := (K_laws_FnExactPlanWrite 5 [Pl Lp0 Zp0 Wp0 Gp0] ⟨(lenOk Wp0.length && lenOk Gp0.length), [B true], [], .fresh⟩ (by kernel_rfl) hpre).2.1 rfl
  have hC := hS W (inW W) (fun _ => False) [.agg cs0.toArray] [] (.agg K0 .nil) List.nodup_nil (fun _ h => h) (fun _ h => h.elim) (gl_of_laid hL)
  refine hC.mono fun e W' hpost => ?_
  obtain ⟨v, rfl, hch, G', _, _, vs, rfl, hall⟩ := hpost
  have bel : Below W.heap.size W W' := ⟨hch.os, hch.tape, hch.output, hch.size, fun j hj => hch.block j hj (by simp)⟩
  have hv : tupV vs = .bool true := by
    cases hall with
    | cons h1 t1 => cases t1; exact h1
  rw [hv]
  exact ⟨_, rfl, _, _, _, [], _, _, hW', trodAll_mk1 (shut_bool Tryd.underlying4 _), (trodAll_cons_mk (Below.trod laidOut (by kernel_rfl) (of_decide_eq_true (by kernel_rfl)) k0 bel lt0) trodAll_mk0), rfl, bel.frame _, fun h => by cases h⟩
theorem over : Rows.fnExactPlanWriteRow.holds Tryd.pinned (OpenSpec.ofChange Rows.fnExactPlanWriteSpec) :=
  OpenClaim.holds_of_wide 5 Tryd.f5 rfl rfl rfl rfl rfl rfl rfl ⟨rfl, rfl, rfl, rfl, rfl⟩ rfl rfl rfl rfl rfl (by kernel_rfl) Tryd.func5 (by kernel_rfl)
    (of_decide_eq_true (by kernel_rfl)) (by unfold Func.isWrapper; first | (rw [if_pos (by decide +kernel)]; kernel_rfl) | (rw [if_neg (by decide +kernel)]; exact ⟨rfl, rfl⟩))
    (fun os started H enc _ => lifted os started H enc)
theorem proved : Rows.FnExactPlanWriteCardSaid :=
  Claim7.holds_tied_plain_at .later [] [.data, .data, .data] true (true, "2eb39a7ae7b67c5d61c8d297bed1475fb806bd1538127287c4fed8864d978a52") true
    over (fun _ h => by cases h) (by kernel_rfl) (fun _ h => by cases h) fnExactPlanWrite_row_tie rfl ⟨rfl, rfl⟩ (by kernel_rfl) rfl
    (fun f fn hf hfn => by
      obtain rfl : f = 5 := Option.some.inj ((show Tryd.prog.funcNamed "loop.example/wellhead/laws.FnExactPlanWrite" = some 5 by kernel_rfl).symm.trans hf) |>.symm
      obtain rfl : fn = Tryd.f5 := (Option.some.inj (Tryd.func5.symm.trans hfn)).symm
      exact ⟨by kernel_rfl, fun j t ht => by
        rw [Tryd.params5] at ht
        have hm : t ∈ [29] := by simpa using Array.mem_of_getElem? ht
        have hall : ([29].all fun u => !Tryd.prog.wantsStandIn u) = true := by kernel_rfl
        exact (show Tryd.prog.wantsStandIn t = false by simpa using List.all_eq_true.1 hall t hm)⟩)
    (by kernel_rfl)
#print axioms proved
end Go.Proofs.YtbgheffgkncpgaaDoor.fnExactPlanWrite
namespace Go.Proofs.YtbgheffgkncpgaaDoor
/-- The card, under a short name, for the claim. -/
theorem fnExactPlanWrite_holds : Rows.FnExactPlanWriteCardSaid := fnExactPlanWrite.proved
end Go.Proofs.YtbgheffgkncpgaaDoor
