/- The statement FnExactGetNewSaid: for every input the law returns true, and each argument reads behind the call as it read before. Conditions: none beside those of the given statement. -/
import Derived.Test.YtaeeickboakmgaaRows
import Derived.Test.YtaeeickboakmgaaXx42
import Derived.Test.YtaeeickboakmgaaQOpen
import Derived.Test.YtaeeickboakmgaaPureFnExactGetNew
import Derived.WalkKit
import Derived.ProofKit
import Derived.OpenShut
import Derived.ShutString
import Derived.ChangeOld
import Derived.Below
import Derived.SizedLaws
namespace Go.Proofs.Ytaeeickboakmgaa.fnExactGetNew
open Go.ChangeShapes Go.WideShapes Go.ChangeAt Go.RowKit
open Go.ChangeMaps (open_string shut_string)
open Go.Proofs.Ytaeeickboakmgaa.X Go.Proofs.YtaeeickboakmgaaW.PrintWords Go.Proofs.YtaeeickboakmgaaW.PrintLast
set_option linter.unusedVariables false
theorem own : ownKnob Try.prog.godebug = none := by kernel_rfl
theorem laidOut : laidOutB Try.prog = true := by kernel_rfl
set_option maxRecDepth 100000 in
theorem lifted (os : Os) (started : os.Started) (H : Type) (enc : TypeId × Value → H) :
    ReturnsInHanded {} Try.checked os 10 .any (Rows.fnExactGetNewSpec.pre6 enc Try.prog Try.f10 Rows.fnExactGetNewRow.domain false) (Rows.fnExactGetNewSpec.post enc Try.prog Try.f10 false true false false) := by
  refine returnsInHanded_of_change_sized (C := Try.checked) own started (by kernel_rfl) Try.func10
    (ChangeSpec.witness6 (enc := enc) (C := Try.checked) false ⟨#[], #[.agg #[.int .i64 0, .int .i64 0, .slice none 0 0, .slice none 0 0]], []⟩ 8 (by kernel_rfl) (by kernel_rfl) (by kernel_rfl) (by kernel_rfl)) ?_
  intro W base args ds gs before hval0 hW hcnd hsz0 _
  have hval : ∀ (j : Nat) t v, Try.f10.params[j]? = some t → args[j]? = some v → Value.okWide Try.prog W .any base t v := hval0
  have hW' := hW
  obtain ⟨p, q, hA0, hV, rfl, hfz, hnd⟩ := hW
  have hA : DataW.TrodAll enc Try.prog W 0 (fun _ => true) true Try.f10.params.toList args.toList ds p := hA0
  rw [Try.params10] at hA hval
  obtain ⟨v0, vs0, d0, ds0, p0, q0, hargs, rfl, rfl, h0, r0⟩ := trodAll_cons hA
  obtain ⟨rfl, rfl, rfl⟩ := trodAll_nil r0
  obtain rfl : args = #[v0] := by cases args; simp_all
  obtain ⟨rfl, rfl⟩ := trodVars_none hV
  have k0 := h0
  have lt0 : ∀ x ∈ p0, x.block < W.heap.size := by obtain ⟨m, hm⟩ := k0; exact DataW.trod_lt m _ _ _ hm
  obtain ⟨x0, cs0, rfl, K0, g0⟩ := reading_arg (reading_struct4 Try.underlying42 (by kernel_rfl) rfl rfl rfl rfl (reading_int .i64 Try.underlying3 (by kernel_rfl)) (reading_int .i64 Try.underlying3 (by kernel_rfl)) (reading_slice Try.underlying23 (by kernel_rfl) (reading_int .i64 Try.underlying3 (by kernel_rfl))) (reading_slice Try.underlying23 (by kernel_rfl) (reading_int .i64 Try.underlying3 (by kernel_rfl)))) Try.underlying42 (hval 0 42 v0 rfl rfl) h0
  obtain ⟨_, _, e0, rfl, ⟨_, _, rfl, rfl, ⟨_, _, rfl, ⟨A0_2, c0_2, rfl, l0_2, C0_2⟩, ⟨A0_3, c0_3, rfl, l0_3, C0_3⟩⟩⟩⟩ := K0
  obtain rfl : cs0 = #[.int .i64 x0.1, .int .i64 x0.2.1, .slice A0_2 (x0.2.2.1).length c0_2, .slice A0_3 (x0.2.2.2).length c0_3] := by cases cs0; simpa using e0
  obtain ⟨k, hk⟩ := Pure.FnExactGetNew (x0.1) (x0.2.1) (x0.2.2.1) (x0.2.2.2) (g0.1) (g0.2.1) (g0.2.2.1) (g0.2.2.2)
  clear hA0 hval0 hsz0
  refine (laws_FnExactGetNew.calls k _ _ _ _ _ _ _ _ W C0_2 l0_2 C0_3 l0_3 hk).mono fun e W' ⟨he, bel0⟩ => ?_
  have bel : Below W.heap.size W W' := bel0
  subst he
  exact ⟨_, rfl, _, _, _, [], _, [], hW', trodAll_mk1 (shut_bool Try.underlying4 _), (trodAll_cons_mk (Below.trod laidOut (by kernel_rfl) (of_decide_eq_true (by kernel_rfl)) k0 bel lt0) trodAll_mk0), rfl, bel.frame _, fun h => by cases h⟩
theorem over : Rows.fnExactGetNewRow.holds Try.pinned (OpenSpec.ofChange Rows.fnExactGetNewSpec) :=
  OpenClaim.holds_of_wide 10 Try.f10 rfl rfl rfl rfl rfl rfl rfl ⟨rfl, rfl, rfl, rfl, rfl⟩ rfl rfl rfl rfl rfl (by kernel_rfl) Try.func10 (by kernel_rfl)
    (of_decide_eq_true (by kernel_rfl)) (by unfold Func.isWrapper; first | (rw [if_pos (by decide +kernel)]; kernel_rfl) | (rw [if_neg (by decide +kernel)]; exact ⟨rfl, rfl⟩))
    (fun os started H enc _ => lifted os started H enc)
theorem proved : Rows.FnExactGetNewSaid := over
#print axioms proved
end Go.Proofs.Ytaeeickboakmgaa.fnExactGetNew
namespace Go.Proofs.Ytaeeickboakmgaa
/-- The row, under a short name, for the claim. -/
theorem fnExactGetNew_holds : Rows.FnExactGetNewSaid := fnExactGetNew.proved
end Go.Proofs.Ytaeeickboakmgaa
