/- What functions come to, and that they do so; conditions: those that each theorem states. -/
import Derived.Test.YthcahoeoofggjaaDe4
set_option linter.unusedVariables false
set_option linter.unusedSimpArgs false
namespace Go.Proofs.Ythcahoeoofggjaa.V
open Go Vx Vx.N
abbrev impl_Solver_prefix_X2 := Int × Int × Int × List (List Int × ByteArray)
noncomputable def impl_Solver_prefix_s2 : impl_Solver_prefix_X2 → St | (n, b0_0, b0_1, b0_2) => [(Loc.t 3, Ct.av (AV.v (V1.cell (Cell.sc (Value.int IntKind.i64 n))))), (Loc.t 1, Ct.av (AV.bx 0 0)), (Loc.b 0, Ct.box [Cell.sc (Value.int IntKind.i64 b0_0), Cell.sc (Value.int IntKind.i64 b0_1), Cell.ro false (Row.eqs b0_2)])]
noncomputable def impl_Solver_prefix_T (k2 : impl_Solver_prefix_X2 → Rs) (s_count : Int) (s_size : Int) (s_eqs : List (List Int × ByteArray)) : Rs := k2 (0, s_count, s_size, s_eqs)
noncomputable def impl_Solver_prefix_T2 (k2 : impl_Solver_prefix_X2 → Rs) : impl_Solver_prefix_X2 → Rs | (n, b0_0, b0_1, b0_2) => cond (decide (n < b0_0)) (cond (smE b0_2) (cond (!(getE b0_2 n).snd) (some ([DA.c (SC.sc (Value.int IntKind.i64 n))], [])) (k2 (IntKind.wrap IntKind.i64 (n + 1), b0_0, b0_1, b0_2))) (none)) (some ([DA.c (SC.sc (Value.int IntKind.i64 n))], []))
theorem impl_Solver_prefix_e2 (N : Nat) (mo : Nat → Nat) (m : Nat) (x : impl_Solver_prefix_X2) : loopL (cxOf [(F_impl_Solver_get.f, S_impl_Solver_get)]) F_impl_Solver_prefix N mo 2 (m + 1) (impl_Solver_prefix_s2 x) = impl_Solver_prefix_T2 (fun x => loopL (cxOf [(F_impl_Solver_get.f, S_impl_Solver_get)]) F_impl_Solver_prefix N mo 2 m (impl_Solver_prefix_s2 x)) x := by
  obtain ⟨n, b0_0, b0_1, b0_2⟩ := x
  kernel_rfl
noncomputable def impl_Solver_prefix_W2 (N : Nat) : Nat → impl_Solver_prefix_X2 → Rs := fixL (fun k => impl_Solver_prefix_T2 k)
theorem impl_Solver_prefix_w2 (N : Nat) (mo : Nat → Nat) (m : Nat) : (fun x => loopL (cxOf [(F_impl_Solver_get.f, S_impl_Solver_get)]) F_impl_Solver_prefix N mo 2 m (impl_Solver_prefix_s2 x)) = impl_Solver_prefix_W2 N m := fixL_eq (I := fun m x => loopL (cxOf [(F_impl_Solver_get.f, S_impl_Solver_get)]) F_impl_Solver_prefix N mo 2 m (impl_Solver_prefix_s2 x)) (T := fun k => impl_Solver_prefix_T2 k) (fun _ => rfl) (fun m x => impl_Solver_prefix_e2 N mo m x) m
theorem impl_Solver_prefix_run (N : Nat) (s_count : Int) (s_size : Int) (s_eqs : List (List Int × ByteArray)) : runF (cxOf [(F_impl_Solver_get.f, S_impl_Solver_get)]) F_impl_Solver_prefix N [DA.agg [SC.sc (Value.int IntKind.i64 s_count), SC.sc (Value.int IntKind.i64 s_size), SC.row (Row.eqs s_eqs)]] = impl_Solver_prefix_T (impl_Solver_prefix_W2 N N) s_count s_size s_eqs := by rw [← impl_Solver_prefix_w2 N (fun _ => 0) N]; kernel_rfl
end Go.Proofs.Ythcahoeoofggjaa.V
namespace Go.Proofs.Ythcahoeoofggjaa.V
open Go Vx Vx.N
noncomputable def impl_SolverRank_T (s_count : Int) (s_size : Int) (s_eqs : List (List Int × ByteArray)) : Rs := cond (smE s_eqs) (cond (!solvB s_count s_size s_eqs) (some ([DA.c (SC.sc (Value.int IntKind.i64 0))], [])) (some ([DA.c (SC.sc (Value.int IntKind.i64 (↑(List.length s_eqs) : Int)))], []))) (none)
theorem impl_SolverRank_run (N : Nat) (s_count : Int) (s_size : Int) (s_eqs : List (List Int × ByteArray)) : runF (cxOf [(F_impl_SolverOk.f, S_impl_SolverOk)]) F_impl_SolverRank N [DA.agg [SC.sc (Value.int IntKind.i64 s_count), SC.sc (Value.int IntKind.i64 s_size), SC.row (Row.eqs s_eqs)]] = impl_SolverRank_T  s_count s_size s_eqs := by kernel_rfl
end Go.Proofs.Ythcahoeoofggjaa.V
namespace Go.Proofs.Ythcahoeoofggjaa.V
open Go Vx Vx.N
noncomputable def spec_SolverNew_T (count : Int) (size : Int) : Rs := cond (!inB count 1 24) (some ([DA.agg [SC.sc (Value.int IntKind.i64 0), SC.sc (Value.int IntKind.i64 0), SC.row (Row.eqs [])]], [])) (cond (!inB size 1 16) (some ([DA.agg [SC.sc (Value.int IntKind.i64 0), SC.sc (Value.int IntKind.i64 0), SC.row (Row.eqs [])]], [])) (some ([DA.agg [SC.sc (Value.int IntKind.i64 count), SC.sc (Value.int IntKind.i64 size), SC.row (Row.eqs [])]], [])))
theorem spec_SolverNew_run (N : Nat) (count : Int) (size : Int) : runF (cxOf [(F_spec_l1In.f, S_spec_l1In)]) F_spec_SolverNew N [DA.c (SC.sc (Value.int IntKind.i64 count)), DA.c (SC.sc (Value.int IntKind.i64 size))] = spec_SolverNew_T  count size := by kernel_rfl
end Go.Proofs.Ythcahoeoofggjaa.V
