/- The statement FnSolverJoinSaid: for every input the law returns true, and each argument reads behind the call as it read before. Conditions: none beside those of the given statement. -/
import Derived.Test.YtbolcmcjniiieaaRows
import Derived.Test.YtbolcmcjniiieaaKdLFnSolverJoin
import Derived.Test.YtbolcmcjniiieaaVxD
import Derived.WalkKit
import Derived.ProofKit
import Derived.OpenShut
import Derived.ShutString
import Derived.ChangeOld
import Derived.Below
import Derived.SizedLaws
namespace Go.Proofs.Ytbolcmcjniiieaa.fnSolverJoin
open Go.ChangeShapes Go.WideShapes Go.ChangeAt Go.RowKit Go Vx Vx.N Go.Proofs.Ytbolcmcjniiieaa.V
open Go.ChangeMaps (open_string shut_string)
set_option linter.unusedVariables false
theorem own : ownKnob Try.prog.godebug = none := by kernel_rfl
theorem laidOut : laidOutB Try.prog = true := by kernel_rfl
set_option maxRecDepth 100000 in
theorem lifted (os : Os) (started : os.Started) (H : Type) (enc : TypeId × Value → H) :
    ReturnsInHanded {} Try.checked os 7 .any (Rows.fnSolverJoinSpec.pre6 enc Try.prog Try.f7 Rows.fnSolverJoinRow.domain false) (Rows.fnSolverJoinSpec.post enc Try.prog Try.f7 false true false false) := by
  refine returnsInHanded_of_change_sized (C := Try.checked) own started (by kernel_rfl) Try.func7
    (ChangeSpec.witness6 (enc := enc) (C := Try.checked) false ⟨#[], #[.slice none 0 0], []⟩ 8 (by kernel_rfl) (by kernel_rfl) (by kernel_rfl) (by kernel_rfl)) ?_
  intro W base args ds gs before hval0 hW hcnd hsz0 _
  have hval : ∀ (j : Nat) t v, Try.f7.params[j]? = some t → args[j]? = some v → Value.okWide Try.prog W .any base t v := hval0
  have hW' := hW
  obtain ⟨p, q, hA0, hV, rfl, hfz, hnd⟩ := hW
  have hA : DataW.TrodAll enc Try.prog W 0 (fun _ => true) true Try.f7.params.toList args.toList ds p := hA0
  rw [Try.params7] at hA hval
  obtain ⟨v0, vs0, d0, ds0, p0, q0, hargs, rfl, rfl, h0, r0⟩ := trodAll_cons hA
  obtain ⟨rfl, rfl, rfl⟩ := trodAll_nil r0
  obtain rfl : args = #[v0] := by cases args; simp_all
  obtain ⟨rfl, rfl⟩ := trodVars_none hV
  have k0 := h0
  have lt0 : ∀ x ∈ p0, x.block < W.heap.size := by obtain ⟨m, hm⟩ := k0; exact DataW.trod_lt m _ _ _ hm
  obtain ⟨x0, K0, a0, e0, g0, g0b⟩ := arg_slice (rdg_ints .u8 Try.underlying22 (by kernel_rfl) Try.underlying5 (by kernel_rfl)) Try.underlying22 (hval 0 22 v0 rfl rfl) h0
  cases e0
  clear hA0 hval0 hsz0
  have hpre : (byOk a0) = true := by
    first | rfl | (simp only [Bool.and_eq_true]; exact byOk_wf g0b) | exact byOk_wf g0b
  have hS := (K_laws_FnSolverJoin 7 [Bs a0] ⟨byOk a0, [B true], [], .fresh⟩ (by kernel_rfl) hpre).2.1 rfl
  have hC := hS W (inW W) (fun _ => False) [v0] [] (.c K0 .nil) List.nodup_nil (fun _ h => h) (fun _ h => h.elim)
  refine hC.mono fun e W' hpost => ?_
  obtain ⟨v, rfl, hch, G', _, _, vs, rfl, hall⟩ := hpost
  have bel : Below W.heap.size W W' := ⟨hch.os, hch.tape, hch.output, hch.size, fun j hj => hch.block j hj (by simp)⟩
  have hv : tupV vs = .bool true := by
    cases hall with
    | cons h1 t1 => cases t1; exact h1
  rw [hv]
  exact ⟨_, rfl, _, _, _, [], _, [], hW', trodAll_mk1 (shut_bool Try.underlying4 _), (trodAll_cons_mk (Below.trod laidOut (by kernel_rfl) (of_decide_eq_true (by kernel_rfl)) k0 bel lt0) trodAll_mk0), rfl, bel.frame _, fun h => by cases h⟩
theorem over : Rows.fnSolverJoinRow.holds Try.pinned (OpenSpec.ofChange Rows.fnSolverJoinSpec) :=
  OpenClaim.holds_of_wide 7 Try.f7 rfl rfl rfl rfl rfl rfl rfl ⟨rfl, rfl, rfl, rfl, rfl⟩ rfl rfl rfl rfl rfl (by kernel_rfl) Try.func7 (by kernel_rfl)
    (of_decide_eq_true (by kernel_rfl)) (by unfold Func.isWrapper; first | (rw [if_pos (by decide +kernel)]; kernel_rfl) | (rw [if_neg (by decide +kernel)]; exact ⟨rfl, rfl⟩))
    (fun os started H enc _ => lifted os started H enc)
theorem proved : Rows.FnSolverJoinSaid := over
#print axioms proved
end Go.Proofs.Ytbolcmcjniiieaa.fnSolverJoin
namespace Go.Proofs.Ytbolcmcjniiieaa
/-- The row, under a short name, for the claim. -/
theorem fnSolverJoin_holds : Rows.FnSolverJoinSaid := fnSolverJoin.proved
end Go.Proofs.Ytbolcmcjniiieaa
