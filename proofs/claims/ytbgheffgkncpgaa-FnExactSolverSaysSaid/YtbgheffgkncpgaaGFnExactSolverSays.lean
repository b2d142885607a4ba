/- The statement FnExactSolverSaysSaid: for every input the law returns true, and each argument reads behind the call as it read before. Conditions: none beside those of the given statement. -/
import Derived.Test.YtbgheffgkncpgaaRows
import Derived.Test.YtbgheffgkncpgaaKcLFnExactSolverSays
import Derived.Test.YtbgheffgkncpgaaVxOpen
import Derived.WalkKit
import Derived.ProofKit
import Derived.OpenShut
import Derived.ShutString
import Derived.ChangeOld
import Derived.Below
import Derived.SizedLaws
namespace Go.Proofs.Ytbgheffgkncpgaa.fnExactSolverSays
open Go.ChangeShapes Go.WideShapes Go.ChangeAt Go.RowKit Go Vx Vx.N Go.Proofs.Ytbgheffgkncpgaa.V
open Go.ChangeMaps (open_string shut_string)
set_option linter.unusedVariables false
theorem own : ownKnob Try.prog.godebug = none := by kernel_rfl
theorem laidOut : laidOutB Try.prog = true := by kernel_rfl
set_option maxRecDepth 100000 in
theorem lifted (os : Os) (started : os.Started) (H : Type) (enc : TypeId × Value → H) :
    ReturnsInHanded {} Try.checked os 7 .any (Rows.fnExactSolverSaysSpec.pre6 enc Try.prog Try.f7 Rows.fnExactSolverSaysRow.domain false) (Rows.fnExactSolverSaysSpec.post enc Try.prog Try.f7 false true false false) := by
  refine returnsInHanded_of_change_sized (C := Try.checked) own started (by kernel_rfl) Try.func7
    (ChangeSpec.witness6 (enc := enc) (C := Try.checked) false ⟨#[], #[.agg #[.int .i64 0, .int .i64 0, .slice none 0 0], .slice none 0 0], []⟩ 8 (by kernel_rfl) (by kernel_rfl) (by kernel_rfl) (by kernel_rfl)) ?_
  intro W base args ds gs before hval0 hW hcnd hsz0 _
  have hval : ∀ (j : Nat) t v, Try.f7.params[j]? = some t → args[j]? = some v → Value.okWide Try.prog W .any base t v := hval0
  have hW' := hW
  obtain ⟨p, q, hA0, hV, rfl, hfz, hnd⟩ := hW
  have hA : DataW.TrodAll enc Try.prog W 0 (fun _ => true) true Try.f7.params.toList args.toList ds p := hA0
  rw [Try.params7] at hA hval
  obtain ⟨v0, vs0, d0, ds0, p0, q0, hargs, rfl, rfl, h0, r0⟩ := trodAll_cons hA
  obtain ⟨v1, vs1, d1, ds1, p1, q1, rfl, rfl, rfl, h1, r1⟩ := trodAll_cons r0
  obtain ⟨rfl, rfl, rfl⟩ := trodAll_nil r1
  obtain rfl : args = #[v0, v1] := by cases args; simp_all
  obtain ⟨rfl, rfl⟩ := trodVars_none hV
  have k0 := h0
  have lt0 : ∀ x ∈ p0, x.block < W.heap.size := by obtain ⟨m, hm⟩ := k0; exact DataW.trod_lt m _ _ _ hm
  have k1 := h1
  have lt1 : ∀ x ∈ p1, x.block < W.heap.size := by obtain ⟨m, hm⟩ := k1; exact DataW.trod_lt m _ _ _ hm
  obtain ⟨cs0, xs0, rfl, K0, _, _, _, rfl, ⟨c, rfl, _⟩, ⟨z, rfl, _⟩, ⟨es, rfl, g1, g2⟩⟩ := arg_struct (rdg_struct3 Try.underlying44 (by kernel_rfl) rfl rfl rfl (rdg_int .i64 Try.underlying3 (by kernel_rfl)) (rdg_int .i64 Try.underlying3 (by kernel_rfl)) (rdg_eqs Try.underlying42 (by kernel_rfl) Try.underlying89 (by kernel_rfl) rfl rfl Try.underlying30 (by kernel_rfl) Try.underlying3 (by kernel_rfl) Try.underlying9 (by kernel_rfl))) Try.underlying44 (hval 0 44 v0 rfl rfl) h0
  obtain ⟨x1, K1, row, e1, g3, _⟩ := arg_slice (rdg_ints .i64 Try.underlying30 (by kernel_rfl) Try.underlying3 (by kernel_rfl)) Try.underlying30 (hval 1 30 v1 rfl rfl) h1
  cases e1
  clear hA0 hval0 hsz0
  have hpre : (lenOk es.length && es.all lenE) = true := by
    simp only [Bool.and_eq_true, List.all_eq_true]
    exact ⟨decide_eq_true g1, fun e he => by
      have := g2 e he
      simp only [lenE, Bool.and_eq_true]
      exact ⟨decide_eq_true this.1, decide_eq_true this.2⟩⟩
  have hS := (K_laws_FnExactSolverSays 7 [So c z es, Is row] ⟨lenOk es.length && es.all lenE, [B true], [], .fresh⟩ (by kernel_rfl) hpre).2.1 rfl
  have hC := hS W (inW W) [.agg cs0.toArray, v1] [] (.agg K0 (.c K1 .nil)) List.nodup_nil (fun _ h => h)
  refine hC.mono fun e W' hpost => ?_
  obtain ⟨v, rfl, hch, G', _, _, vs, rfl, hall⟩ := hpost
  have bel : Below W.heap.size W W' := ⟨hch.os, hch.tape, hch.output, hch.size, fun j hj => hch.block j hj (by simp)⟩
  have hv : tupV vs = .bool true := by
    cases hall with
    | cons h1 t1 => cases t1; exact h1
  rw [hv]
  exact ⟨_, rfl, _, _, _, [], _, [], hW', trodAll_mk1 (shut_bool Try.underlying4 _), (trodAll_cons_mk (Below.trod laidOut (by kernel_rfl) (of_decide_eq_true (by kernel_rfl)) k0 bel lt0) (trodAll_cons_mk (Below.trod laidOut (by kernel_rfl) (of_decide_eq_true (by kernel_rfl)) k1 bel lt1) trodAll_mk0)), rfl, bel.frame _, fun h => by cases h⟩
theorem over : Rows.fnExactSolverSaysRow.holds Try.pinned (OpenSpec.ofChange Rows.fnExactSolverSaysSpec) :=
  OpenClaim.holds_of_wide 7 Try.f7 rfl rfl rfl rfl rfl rfl rfl ⟨rfl, rfl, rfl, rfl, rfl⟩ rfl rfl rfl rfl rfl (by kernel_rfl) Try.func7 (by kernel_rfl)
    (of_decide_eq_true (by kernel_rfl)) (by unfold Func.isWrapper; first | (rw [if_pos (by decide +kernel)]; kernel_rfl) | (rw [if_neg (by decide +kernel)]; exact ⟨rfl, rfl⟩))
    (fun os started H enc _ => lifted os started H enc)
theorem proved : Rows.FnExactSolverSaysSaid := over
#print axioms proved
end Go.Proofs.Ytbgheffgkncpgaa.fnExactSolverSays
namespace Go.Proofs.Ytbgheffgkncpgaa
/-- The row, under a short name, for the claim. -/
theorem fnExactSolverSays_holds : Rows.FnExactSolverSaysSaid := fnExactSolverSays.proved
end Go.Proofs.Ytbgheffgkncpgaa
