/- The statement FnExactSolverAddSaid: for every input the law returns true, and each argument reads behind the call as it read before. Conditions: none beside those of the given statement. -/
import Derived.Test.YtbolcmcjniiieaaRows
import Derived.Test.YtbolcmcjniiieaaKgLFnExactSolverAdd
import Derived.Test.YtbolcmcjniiieaaVxD
import Derived.WalkKit
import Derived.ProofKit
import Derived.OpenShut
import Derived.ShutString
import Derived.ChangeOld
import Derived.Below
import Derived.SizedLaws
namespace Go.Proofs.Ytbolcmcjniiieaa.fnExactSolverAdd
open Go.ChangeShapes Go.WideShapes Go.ChangeAt Go.RowKit Go Vx Vx.N Go.Proofs.Ytbolcmcjniiieaa.V
open Go.ChangeMaps (open_string shut_string)
set_option linter.unusedVariables false
theorem own : ownKnob Try.prog.godebug = none := by kernel_rfl
theorem laidOut : laidOutB Try.prog = true := by kernel_rfl
theorem arg_str {H : Type} {enc : TypeId × Value → H} {P : Program} {t : TypeId} {r : Reach} {W : World} {sp : Nat → Bool} {hd : Bool} {b : Nat} {v : Value} {dd : DataW H} {p : List MemPlace}
    (ht : P.underlying t = some .string) (hv : Value.okWide P W r b t v) (hx : DataW.Trod enc P W 0 sp hd t v dd p) : ∃ s : ByteArray, v = .string s ∧ s.size ≤ maxLen := by
  obtain ⟨s, rfl⟩ := okWide_string ht hv
  obtain ⟨fuel, hf⟩ := hx
  obtain ⟨m, hm, _, hw⟩ := DataW.trod_string ht hf
  have hm : [Value.string s] = [Value.string m] := hm
  cases hm
  exact ⟨s, rfl, hw⟩
set_option maxRecDepth 100000 in
theorem lifted (os : Os) (started : os.Started) (H : Type) (enc : TypeId × Value → H) :
    ReturnsInHanded {} Try.checked os 6 .any (Rows.fnExactSolverAddSpec.pre6 enc Try.prog Try.f6 Rows.fnExactSolverAddRow.domain false) (Rows.fnExactSolverAddSpec.post enc Try.prog Try.f6 false true false false) := by
  refine returnsInHanded_of_change_sized (C := Try.checked) own started (by kernel_rfl) Try.func6
    (ChangeSpec.witness6 (enc := enc) (C := Try.checked) false ⟨#[], #[.agg #[.int .i64 0, .int .i64 0, .slice none 0 0], .slice none 0 0, .string ⟨#[]⟩], []⟩ 8 (by kernel_rfl) (by kernel_rfl) (by kernel_rfl) (by kernel_rfl)) ?_
  intro W base args ds gs before hval0 hW hcnd hsz0 _
  have hval : ∀ (j : Nat) t v, Try.f6.params[j]? = some t → args[j]? = some v → Value.okWide Try.prog W .any base t v := hval0
  have hW' := hW
  obtain ⟨p, q, hA0, hV, rfl, hfz, hnd⟩ := hW
  have hA : DataW.TrodAll enc Try.prog W 0 (fun _ => true) true Try.f6.params.toList args.toList ds p := hA0
  rw [Try.params6] at hA hval
  obtain ⟨v0, vs0, d0, ds0, p0, q0, hargs, rfl, rfl, h0, r0⟩ := trodAll_cons hA
  obtain ⟨v1, vs1, d1, ds1, p1, q1, rfl, rfl, rfl, h1, r1⟩ := trodAll_cons r0
  obtain ⟨v2, vs2, d2, ds2, p2, q2, rfl, rfl, rfl, h2, r2⟩ := trodAll_cons r1
  obtain ⟨rfl, rfl, rfl⟩ := trodAll_nil r2
  obtain rfl : args = #[v0, v1, v2] := by cases args; simp_all
  obtain ⟨rfl, rfl⟩ := trodVars_none hV
  have k0 := h0
  have lt0 : ∀ x ∈ p0, x.block < W.heap.size := by obtain ⟨m, hm⟩ := k0; exact DataW.trod_lt m _ _ _ hm
  have k1 := h1
  have lt1 : ∀ x ∈ p1, x.block < W.heap.size := by obtain ⟨m, hm⟩ := k1; exact DataW.trod_lt m _ _ _ hm
  have k2 := h2
  have lt2 : ∀ x ∈ p2, x.block < W.heap.size := by obtain ⟨m, hm⟩ := k2; exact DataW.trod_lt m _ _ _ hm
  obtain ⟨cs0, xs0, rfl, K0, _, _, _, rfl, ⟨c0, rfl, _⟩, ⟨z0, rfl, _⟩, ⟨es0, rfl, g0, g0b⟩⟩ := arg_struct (rdg_struct3 Try.underlying44 (by kernel_rfl) rfl rfl rfl (rdg_int .i64 Try.underlying3 (by kernel_rfl)) (rdg_int .i64 Try.underlying3 (by kernel_rfl)) (rdg_eqs Try.underlying42 (by kernel_rfl) Try.underlying93 (by kernel_rfl) rfl rfl Try.underlying26 (by kernel_rfl) Try.underlying3 (by kernel_rfl) Try.underlying9 (by kernel_rfl))) Try.underlying44 (hval 0 44 v0 rfl rfl) h0
  obtain ⟨x1, K1, a1, e1, g1, g1b⟩ := arg_slice (rdg_ints .i64 Try.underlying26 (by kernel_rfl) Try.underlying3 (by kernel_rfl)) Try.underlying26 (hval 1 26 v1 rfl rfl) h1
  cases e1
  obtain ⟨a2, rfl, g2⟩ := arg_str Try.underlying9 (hval 2 9 v2 rfl rfl) h2
  clear hA0 hval0 hsz0
  have hpre : ((lenOk es0.length && es0.all lenE)) = true := by
    first | rfl | (simp only [Bool.and_eq_true]; exact lenE_wf g0 g0b) | exact lenE_wf g0 g0b
  have hS := (K_laws_FnExactSolverAdd 6 [So c0 z0 es0, Is a1, T a2] ⟨(lenOk es0.length && es0.all lenE), [B true], [], .fresh⟩ (by kernel_rfl) hpre).2.1 rfl
  have hC := hS W (inW W) (fun _ => False) [.agg cs0.toArray, v1, .string a2] [] (.agg K0 (.c K1 (.c rfl .nil))) List.nodup_nil (fun _ h => h) (fun _ h => h.elim) ⟨fun _ _ _ h => (by cases h), fun _ _ h => (by cases h)⟩
  refine hC.mono fun e W' hpost => ?_
  obtain ⟨v, rfl, hch, G', _, _, vs, rfl, hall⟩ := hpost
  have bel : Below W.heap.size W W' := ⟨hch.os, hch.tape, hch.output, hch.size, fun j hj => hch.block j hj (by simp)⟩
  have hv : tupV vs = .bool true := by
    cases hall with
    | cons h1 t1 => cases t1; exact h1
  rw [hv]
  exact ⟨_, rfl, _, _, _, [], _, [], hW', trodAll_mk1 (shut_bool Try.underlying4 _), (trodAll_cons_mk (Below.trod laidOut (by kernel_rfl) (of_decide_eq_true (by kernel_rfl)) k0 bel lt0) (trodAll_cons_mk (Below.trod laidOut (by kernel_rfl) (of_decide_eq_true (by kernel_rfl)) k1 bel lt1) (trodAll_cons_mk (Below.trod laidOut (by kernel_rfl) (of_decide_eq_true (by kernel_rfl)) k2 bel lt2) trodAll_mk0))), rfl, bel.frame _, fun h => by cases h⟩
theorem over : Rows.fnExactSolverAddRow.holds Try.pinned (OpenSpec.ofChange Rows.fnExactSolverAddSpec) :=
  OpenClaim.holds_of_wide 6 Try.f6 rfl rfl rfl rfl rfl rfl rfl ⟨rfl, rfl, rfl, rfl, rfl⟩ rfl rfl rfl rfl rfl (by kernel_rfl) Try.func6 (by kernel_rfl)
    (of_decide_eq_true (by kernel_rfl)) (by unfold Func.isWrapper; first | (rw [if_pos (by decide +kernel)]; kernel_rfl) | (rw [if_neg (by decide +kernel)]; exact ⟨rfl, rfl⟩))
    (fun os started H enc _ => lifted os started H enc)
theorem proved : Rows.FnExactSolverAddSaid := over
#print axioms proved
end Go.Proofs.Ytbolcmcjniiieaa.fnExactSolverAdd
namespace Go.Proofs.Ytbolcmcjniiieaa
/-- The row, under a short name, for the claim. -/
theorem fnExactSolverAdd_holds : Rows.FnExactSolverAddSaid := fnExactSolverAdd.proved
end Go.Proofs.Ytbolcmcjniiieaa
