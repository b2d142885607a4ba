/- The statement FnExactPlanCutSaid: for every input the law returns true, and each argument reads behind the call as it read before. Conditions: none beside those of the given statement. -/
import Derived.Test.YtaeeickboakmgaaRows
import Derived.Test.YtaeeickboakmgaaXx21
import Derived.Test.YtaeeickboakmgaaQOpen
import Derived.Test.YtaeeickboakmgaaPureFnExactPlanCut
import Derived.WalkKit
import Derived.ProofKit
import Derived.OpenShut
import Derived.ShutString
import Derived.ChangeOld
import Derived.Below
import Derived.SizedLaws
namespace Go.Proofs.Ytaeeickboakmgaa.fnExactPlanCut
open Go.ChangeShapes Go.WideShapes Go.ChangeAt Go.RowKit
open Go.ChangeMaps (open_string shut_string)
open Go.Proofs.Ytaeeickboakmgaa.X Go.Proofs.YtaeeickboakmgaaW.PrintWords Go.Proofs.YtaeeickboakmgaaW.PrintLast
set_option linter.unusedVariables false
theorem own : ownKnob Try.prog.godebug = none := by kernel_rfl
theorem laidOut : laidOutB Try.prog = true := by kernel_rfl
set_option maxRecDepth 100000 in
theorem lifted (os : Os) (started : os.Started) (H : Type) (enc : TypeId × Value → H) :
    ReturnsInHanded {} Try.checked os 5 .any (Rows.fnExactPlanCutSpec.pre6 enc Try.prog Try.f5 Rows.fnExactPlanCutRow.domain false) (Rows.fnExactPlanCutSpec.post enc Try.prog Try.f5 false true false false) := by
  refine returnsInHanded_of_change_sized (C := Try.checked) own started (by kernel_rfl) Try.func5
    (ChangeSpec.witness6 (enc := enc) (C := Try.checked) false ⟨#[], #[.agg #[.int .i64 0, .int .i64 0, .slice none 0 0, .slice none 0 0], .string ByteArray.empty], []⟩ 8 (by kernel_rfl) (by kernel_rfl) (by kernel_rfl) (by kernel_rfl)) ?_
  intro W base args ds gs before hval0 hW hcnd hsz0 _
  have hval : ∀ (j : Nat) t v, Try.f5.params[j]? = some t → args[j]? = some v → Value.okWide Try.prog W .any base t v := hval0
  have hW' := hW
  obtain ⟨p, q, hA0, hV, rfl, hfz, hnd⟩ := hW
  have hA : DataW.TrodAll enc Try.prog W 0 (fun _ => true) true Try.f5.params.toList args.toList ds p := hA0
  rw [Try.params5] at hA hval
  obtain ⟨v0, vs0, d0, ds0, p0, q0, hargs, rfl, rfl, h0, r0⟩ := trodAll_cons hA
  obtain ⟨v1, vs1, d1, ds1, p1, q1, rfl, rfl, rfl, h1, r1⟩ := trodAll_cons r0
  obtain ⟨rfl, rfl, rfl⟩ := trodAll_nil r1
  obtain rfl : args = #[v0, v1] := by cases args; simp_all
  obtain ⟨rfl, rfl⟩ := trodVars_none hV
  have k0 := h0
  have lt0 : ∀ x ∈ p0, x.block < W.heap.size := by obtain ⟨m, hm⟩ := k0; exact DataW.trod_lt m _ _ _ hm
  obtain ⟨x0, cs0, rfl, K0, g0⟩ := reading_arg (reading_struct4 Try.underlying42 (by kernel_rfl) rfl rfl rfl rfl (reading_int .i64 Try.underlying3 (by kernel_rfl)) (reading_int .i64 Try.underlying3 (by kernel_rfl)) (reading_slice Try.underlying23 (by kernel_rfl) (reading_int .i64 Try.underlying3 (by kernel_rfl))) (reading_slice Try.underlying23 (by kernel_rfl) (reading_int .i64 Try.underlying3 (by kernel_rfl)))) Try.underlying42 (hval 0 42 v0 rfl rfl) h0
  obtain ⟨_, _, e0, rfl, ⟨_, _, rfl, rfl, ⟨_, _, rfl, ⟨A0_2, c0_2, rfl, l0_2, C0_2⟩, ⟨A0_3, c0_3, rfl, l0_3, C0_3⟩⟩⟩⟩ := K0
  obtain rfl : cs0 = #[.int .i64 x0.1, .int .i64 x0.2.1, .slice A0_2 (x0.2.2.1).length c0_2, .slice A0_3 (x0.2.2.2).length c0_3] := by cases cs0; simpa using e0
  obtain ⟨a1, rfl, rfl, rfl, y1⟩ := open_string Try.underlying9 (hval 1 9 v1 rfl rfl) h1
  obtain ⟨k, hk⟩ := Pure.FnExactPlanCut (x0.1) (x0.2.1) (x0.2.2.1) (x0.2.2.2) (a1) (g0.1) (g0.2.1) (g0.2.2.1) (g0.2.2.2) (y1)
  clear hA0 hval0 hsz0
  refine (laws_FnExactPlanCut.calls k _ _ _ _ _ _ _ _ _ W C0_2 l0_2 C0_3 l0_3 hk).mono fun e W' ⟨he, bel0⟩ => ?_
  have bel : Below W.heap.size W W' := bel0
  subst he
  exact ⟨_, rfl, _, _, _, [], _, [], hW', trodAll_mk1 (shut_bool Try.underlying4 _), (trodAll_cons_mk (Below.trod laidOut (by kernel_rfl) (of_decide_eq_true (by kernel_rfl)) k0 bel lt0) (trodAll_cons_mk (shut_string Try.underlying9 y1) trodAll_mk0)), rfl, bel.frame _, fun h => by cases h⟩
theorem over : Rows.fnExactPlanCutRow.holds Try.pinned (OpenSpec.ofChange Rows.fnExactPlanCutSpec) :=
  OpenClaim.holds_of_wide 5 Try.f5 rfl rfl rfl rfl rfl rfl rfl ⟨rfl, rfl, rfl, rfl, rfl⟩ rfl rfl rfl rfl rfl (by kernel_rfl) Try.func5 (by kernel_rfl)
    (of_decide_eq_true (by kernel_rfl)) (by unfold Func.isWrapper; first | (rw [if_pos (by decide +kernel)]; kernel_rfl) | (rw [if_neg (by decide +kernel)]; exact ⟨rfl, rfl⟩))
    (fun os started H enc _ => lifted os started H enc)
theorem proved : Rows.FnExactPlanCutSaid := over
#print axioms proved
end Go.Proofs.Ytaeeickboakmgaa.fnExactPlanCut
namespace Go.Proofs.Ytaeeickboakmgaa
/-- The row, under a short name, for the claim. -/
theorem fnExactPlanCut_holds : Rows.FnExactPlanCutSaid := fnExactPlanCut.proved
end Go.Proofs.Ytaeeickboakmgaa
