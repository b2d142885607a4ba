/- The statement FnExactSolverJoinSaid: for every input the law returns true, and each argument reads behind the call as it read before. Conditions: none beside those of the given statement. -/
import Derived.Test.YtbolcmcjniiieaaRows
import Derived.Test.YtbolcmcjniiieaaKgLFnExactSolverJoin
import Derived.Test.YtbolcmcjniiieaaVxD
import Derived.WalkKit
import Derived.ProofKit
import Derived.OpenShut
import Derived.ShutString
import Derived.ChangeOld
import Derived.Below
import Derived.SizedLaws
namespace Go.Proofs.Ytbolcmcjniiieaa.fnExactSolverJoin
open Go.ChangeShapes Go.WideShapes Go.ChangeAt Go.RowKit Go Vx Vx.N Go.Proofs.Ytbolcmcjniiieaa.V
open Go.ChangeMaps (open_string shut_string)
set_option linter.unusedVariables false
theorem own : ownKnob Try.prog.godebug = none := by kernel_rfl
theorem laidOut : laidOutB Try.prog = true := by kernel_rfl
set_option maxRecDepth 100000 in
theorem lifted (os : Os) (started : os.Started) (H : Type) (enc : TypeId × Value → H) :
    ReturnsInHanded {} Try.checked os 8 .any (Rows.fnExactSolverJoinSpec.pre6 enc Try.prog Try.f8 Rows.fnExactSolverJoinRow.domain false) (Rows.fnExactSolverJoinSpec.post enc Try.prog Try.f8 false true false false) := by
  refine returnsInHanded_of_change_sized (C := Try.checked) own started (by kernel_rfl) Try.func8
    (ChangeSpec.witness6 (enc := enc) (C := Try.checked) false ⟨#[], #[.agg #[.int .i64 0, .int .i64 0, .slice none 0 0], .agg #[.int .i64 0, .int .i64 0, .slice none 0 0]], []⟩ 8 (by kernel_rfl) (by kernel_rfl) (by kernel_rfl) (by kernel_rfl)) ?_
  intro W base args ds gs before hval0 hW hcnd hsz0 _
  have hval : ∀ (j : Nat) t v, Try.f8.params[j]? = some t → args[j]? = some v → Value.okWide Try.prog W .any base t v := hval0
  have hW' := hW
  obtain ⟨p, q, hA0, hV, rfl, hfz, hnd⟩ := hW
  have hA : DataW.TrodAll enc Try.prog W 0 (fun _ => true) true Try.f8.params.toList args.toList ds p := hA0
  rw [Try.params8] at hA hval
  obtain ⟨v0, vs0, d0, ds0, p0, q0, hargs, rfl, rfl, h0, r0⟩ := trodAll_cons hA
  obtain ⟨v1, vs1, d1, ds1, p1, q1, rfl, rfl, rfl, h1, r1⟩ := trodAll_cons r0
  obtain ⟨rfl, rfl, rfl⟩ := trodAll_nil r1
  obtain rfl : args = #[v0, v1] := by cases args; simp_all
  obtain ⟨rfl, rfl⟩ := trodVars_none hV
  have k0 := h0
  have lt0 : ∀ x ∈ p0, x.block < W.heap.size := by obtain ⟨m, hm⟩ := k0; exact DataW.trod_lt m _ _ _ hm
  have k1 := h1
  have lt1 : ∀ x ∈ p1, x.block < W.heap.size := by obtain ⟨m, hm⟩ := k1; exact DataW.trod_lt m _ _ _ hm
  obtain ⟨cs0, xs0, rfl, K0, _, _, _, rfl, ⟨c0, rfl, _⟩, ⟨z0, rfl, _⟩, ⟨es0, rfl, g0, g0b⟩⟩ := arg_struct (rdg_struct3 Try.underlying44 (by kernel_rfl) rfl rfl rfl (rdg_int .i64 Try.underlying3 (by kernel_rfl)) (rdg_int .i64 Try.underlying3 (by kernel_rfl)) (rdg_eqs Try.underlying42 (by kernel_rfl) Try.underlying93 (by kernel_rfl) rfl rfl Try.underlying26 (by kernel_rfl) Try.underlying3 (by kernel_rfl) Try.underlying9 (by kernel_rfl))) Try.underlying44 (hval 0 44 v0 rfl rfl) h0
  obtain ⟨cs1, xs1, rfl, K1, _, _, _, rfl, ⟨c1, rfl, _⟩, ⟨z1, rfl, _⟩, ⟨es1, rfl, g1, g1b⟩⟩ := arg_struct (rdg_struct3 Try.underlying44 (by kernel_rfl) rfl rfl rfl (rdg_int .i64 Try.underlying3 (by kernel_rfl)) (rdg_int .i64 Try.underlying3 (by kernel_rfl)) (rdg_eqs Try.underlying42 (by kernel_rfl) Try.underlying93 (by kernel_rfl) rfl rfl Try.underlying26 (by kernel_rfl) Try.underlying3 (by kernel_rfl) Try.underlying9 (by kernel_rfl))) Try.underlying44 (hval 1 44 v1 rfl rfl) h1
  clear hA0 hval0 hsz0
  have hpre : ((lenOk es0.length && es0.all lenE) && (lenOk es1.length && es1.all lenE)) = true := by
    first | rfl | (rw [Bool.and_eq_true]; exact ⟨lenE_wf g0 g0b, lenE_wf g1 g1b⟩) | (simp only [Bool.and_eq_true]; exact ⟨lenE_wf g0 g0b, lenE_wf g1 g1b⟩) | exact lenE_wf g0 g0b
  have hS := (K_laws_FnExactSolverJoin 8 [So c0 z0 es0, So c1 z1 es1] ⟨(lenOk es0.length && es0.all lenE) && (lenOk es1.length && es1.all lenE), [B true], [], .fresh⟩ (by kernel_rfl) hpre).2.1 rfl
  have hC := hS W (inW W) (fun _ => False) [.agg cs0.toArray, .agg cs1.toArray] [] (.agg K0 (.agg K1 .nil)) List.nodup_nil (fun _ h => h) (fun _ h => h.elim) ⟨fun _ _ _ h => (by cases h), fun _ _ h => (by cases h)⟩
  refine hC.mono fun e W' hpost => ?_
  obtain ⟨v, rfl, hch, G', _, _, vs, rfl, hall⟩ := hpost
  have bel : Below W.heap.size W W' := ⟨hch.os, hch.tape, hch.output, hch.size, fun j hj => hch.block j hj (by simp)⟩
  have hv : tupV vs = .bool true := by
    cases hall with
    | cons h1 t1 => cases t1; exact h1
  rw [hv]
  exact ⟨_, rfl, _, _, _, [], _, [], hW', trodAll_mk1 (shut_bool Try.underlying4 _), (trodAll_cons_mk (Below.trod laidOut (by kernel_rfl) (of_decide_eq_true (by kernel_rfl)) k0 bel lt0) (trodAll_cons_mk (Below.trod laidOut (by kernel_rfl) (of_decide_eq_true (by kernel_rfl)) k1 bel lt1) trodAll_mk0)), rfl, bel.frame _, fun h => by cases h⟩
theorem over : Rows.fnExactSolverJoinRow.holds Try.pinned (OpenSpec.ofChange Rows.fnExactSolverJoinSpec) :=
  OpenClaim.holds_of_wide 8 Try.f8 rfl rfl rfl rfl rfl rfl rfl ⟨rfl, rfl, rfl, rfl, rfl⟩ rfl rfl rfl rfl rfl (by kernel_rfl) Try.func8 (by kernel_rfl)
    (of_decide_eq_true (by kernel_rfl)) (by unfold Func.isWrapper; first | (rw [if_pos (by decide +kernel)]; kernel_rfl) | (rw [if_neg (by decide +kernel)]; exact ⟨rfl, rfl⟩))
    (fun os started H enc _ => lifted os started H enc)
theorem proved : Rows.FnExactSolverJoinSaid := over
#print axioms proved
end Go.Proofs.Ytbolcmcjniiieaa.fnExactSolverJoin
namespace Go.Proofs.Ytbolcmcjniiieaa
/-- The row, under a short name, for the claim. -/
theorem fnExactSolverJoin_holds : Rows.FnExactSolverJoinSaid := fnExactSolverJoin.proved
end Go.Proofs.Ytbolcmcjniiieaa
