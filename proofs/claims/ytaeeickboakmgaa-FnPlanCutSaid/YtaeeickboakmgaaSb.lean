/- Tables of types, and where functions lie. Conditions: those that each theorem states. -/
import Derived.Test.YtaeeickboakmgaaVxD
import Derived.Test.YtaeeickboakmgaaProg
set_option linter.unusedVariables false
set_option linter.unusedSimpArgs false
namespace Go.Proofs.Ytaeeickboakmgaa.V
open Go Vx Go.Proofs
noncomputable def TIs : List (TypeId × TI) := [(2, ⟨.int .i64, 1, 8, [.int .i64]⟩), (3, ⟨.int .i64, 1, 8, [.int .i64]⟩), (4, ⟨.bool, 1, 1, [.bool]⟩), (5, ⟨.int .u8, 1, 1, [.int .u8]⟩), (9, ⟨.str, 1, 16, [.str]⟩), (12, ⟨.int .u64, 1, 8, [.int .u64]⟩), (13, ⟨.struct [(0, 1), (1, 1)], 2, 24, [.str, .int .u64]⟩), (21, ⟨.int .i32, 1, 4, [.int .i32]⟩), (22, ⟨.slice 5, 1, 24, [.nil (.ints .u8)]⟩), (23, ⟨.slice 3, 1, 24, [.nil (.ints .i64)]⟩), (30, ⟨.slice 102, 1, 24, [.nil .eqs]⟩), (31, ⟨.struct [(0, 1), (1, 1), (2, 1)], 3, 40, [.int .i64, .int .i64, .nil .eqs]⟩), (32, ⟨.struct [(0, 1), (1, 1), (2, 1)], 3, 40, [.int .i64, .int .i64, .nil .eqs]⟩), (35, ⟨.slice 84, 1, 24, [.nil .eqs]⟩), (36, ⟨.struct [(0, 1), (1, 1), (2, 1)], 3, 40, [.int .i64, .int .i64, .nil .eqs]⟩), (37, ⟨.struct [(0, 1), (1, 1), (2, 1)], 3, 40, [.int .i64, .int .i64, .nil .eqs]⟩), (41, ⟨.struct [(0, 1), (1, 1), (2, 1), (3, 1)], 4, 64, [.int .i64, .int .i64, .nil (.ints .i64), .nil (.ints .i64)]⟩), (42, ⟨.struct [(0, 1), (1, 1), (2, 1), (3, 1)], 4, 64, [.int .i64, .int .i64, .nil (.ints .i64), .nil (.ints .i64)]⟩), (44, ⟨.slice 9, 1, 24, [.nil .strs]⟩), (46, ⟨.struct [(0, 1), (1, 1), (2, 1), (3, 1)], 4, 64, [.int .i64, .int .i64, .nil (.ints .i64), .nil (.ints .i64)]⟩), (60, ⟨.struct [(0, 4), (4, 3)], 7, 104, [.int .i64, .int .i64, .nil (.ints .i64), .nil (.ints .i64), .int .i64, .int .i64, .nil .eqs]⟩), (61, ⟨.struct [(0, 4), (4, 3)], 7, 104, [.int .i64, .int .i64, .nil (.ints .i64), .nil (.ints .i64), .int .i64, .int .i64, .nil .eqs]⟩), (66, ⟨.struct [(0, 4), (4, 3)], 7, 104, [.int .i64, .int .i64, .nil (.ints .i64), .nil (.ints .i64), .int .i64, .int .i64, .nil .eqs]⟩), (67, ⟨.struct [(0, 4), (4, 3)], 7, 104, [.int .i64, .int .i64, .nil (.ints .i64), .nil (.ints .i64), .int .i64, .int .i64, .nil .eqs]⟩), (79, ⟨.int .u32, 1, 4, [.int .u32]⟩), (83, ⟨.struct [(0, 1), (1, 1)], 2, 40, [.nil (.ints .i64), .str]⟩), (84, ⟨.struct [(0, 1), (1, 1)], 2, 40, [.nil (.ints .i64), .str]⟩), (99, ⟨.struct [(0, 1), (1, 1)], 2, 32, [.nil (.ints .u8), .int .i64]⟩), (100, ⟨.struct [(0, 1), (1, 1)], 2, 32, [.nil (.ints .u8), .int .i64]⟩), (102, ⟨.struct [(0, 1), (1, 1)], 2, 40, [.nil (.ints .i64), .str]⟩)]
noncomputable def EKs : List (TypeId × RK) := [(3, (.ints .i64)), (5, (.ints .u8)), (9, .strs), (79, (.ints .u32)), (84, .eqs)]
theorem tabs (Φ : FuncId → List DA → Option Sp) : TabOk Try.prog ⟨TIs, EKs, Φ⟩ := tab_ok (by kernel_rfl)
theorem snd {F : FnI} (hf : FnOk Try.prog F) (l : List (FuncId × (List DA → Option Sp))) (hl : Sound Try.prog EKs (tabF l)) {S : List DA → Option Sp} (h : ∀ args sp, S args = some sp → sp.pre = true → sp.mode = F.mode ∧ ∃ n, runF ⟨TIs, EKs, tabF l⟩ F n args = some (sp.res, sp.outs)) : Sound1 Try.prog EKs F.f S := sound1 (cx := ⟨TIs, EKs, tabF l⟩) (tabs _) (by kernel_rfl) hl hf h
theorem mix : Try.prog.follows .mixedOrders = true := by kernel_rfl
noncomputable def cxOf (l : List (FuncId × (List DA → Option Sp))) : Cx := ⟨TIs, EKs, tabF l⟩
noncomputable def F_laws_FnRowXor : FnI := ⟨3, bodyOf Try.f3, 77, [.tmp 2], [0, 2, 3, 4, 5, 6, 9, 40, 47, 60], fun | 8 => [3, 4, 5, 6] | _ => [], 0, .fresh⟩
theorem ok_laws_FnRowXor : FnOk Try.prog F_laws_FnRowXor := ⟨_, Try.func3, rfl, by kernel_rfl, by kernel_rfl, by kernel_rfl⟩
noncomputable def F_laws_FnExactSolverOk : FnI := ⟨4, bodyOf Try.f4, 27, [.tmp 2], [0, 1, 2, 3, 4, 5, 6, 11, 21, 26], fun  | _ => [], 0, .fresh⟩
theorem ok_laws_FnExactSolverOk : FnOk Try.prog F_laws_FnExactSolverOk := ⟨_, Try.func4, rfl, by kernel_rfl, by kernel_rfl, by kernel_rfl⟩
noncomputable def F_laws_FnExactPlanCut : FnI := ⟨5, bodyOf Try.f5, 77, [.tmp 4], [0, 1, 2, 4, 5, 6, 7, 8, 9, 10, 11, 12, 15, 20, 33, 38, 49, 57, 60, 68, 73, 76], fun  | _ => [], 0, .fresh⟩
theorem ok_laws_FnExactPlanCut : FnOk Try.prog F_laws_FnExactPlanCut := ⟨_, Try.func5, rfl, by kernel_rfl, by kernel_rfl, by kernel_rfl⟩
noncomputable def F_laws_FnPlanCut : FnI := ⟨6, bodyOf Try.f6, 81, [.tmp 2], [0, 2, 3, 4, 5, 6, 7, 8, 11, 30, 39, 49, 61, 67], fun | 15 => [3, 4, 5, 6, 8] | 9 => [3, 4, 5, 6, 7] | _ => [], 0, .fresh⟩
theorem ok_laws_FnPlanCut : FnOk Try.prog F_laws_FnPlanCut := ⟨_, Try.func6, rfl, by kernel_rfl, by kernel_rfl, by kernel_rfl⟩
noncomputable def F_laws_FnExactSolverRank : FnI := ⟨7, bodyOf Try.f7, 27, [.tmp 2], [0, 1, 2, 3, 4, 5, 6, 11, 21, 26], fun  | _ => [], 0, .fresh⟩
theorem ok_laws_FnExactSolverRank : FnOk Try.prog F_laws_FnExactSolverRank := ⟨_, Try.func7, rfl, by kernel_rfl, by kernel_rfl, by kernel_rfl⟩
noncomputable def F_laws_FnExactSolverGet : FnI := ⟨8, bodyOf Try.f8, 44, [.tmp 4], [0, 1, 2, 4, 5, 6, 7, 8, 9, 10, 15, 38, 43], fun  | _ => [], 0, .fresh⟩
theorem ok_laws_FnExactSolverGet : FnOk Try.prog F_laws_FnExactSolverGet := ⟨_, Try.func8, rfl, by kernel_rfl, by kernel_rfl, by kernel_rfl⟩
noncomputable def F_laws_FnExactSolverPrefix : FnI := ⟨9, bodyOf Try.f9, 27, [.tmp 2], [0, 1, 2, 3, 4, 5, 6, 11, 21, 26], fun  | _ => [], 0, .fresh⟩
theorem ok_laws_FnExactSolverPrefix : FnOk Try.prog F_laws_FnExactSolverPrefix := ⟨_, Try.func9, rfl, by kernel_rfl, by kernel_rfl, by kernel_rfl⟩
noncomputable def F_laws_FnExactGetNew : FnI := ⟨10, bodyOf Try.f10, 69, [.tmp 2], [0, 1, 2, 3, 4, 5, 6, 7, 8, 9, 10, 15, 26, 31, 42, 50, 53, 60, 65, 68], fun  | _ => [], 0, .fresh⟩
theorem ok_laws_FnExactGetNew : FnOk Try.prog F_laws_FnExactGetNew := ⟨_, Try.func10, rfl, by kernel_rfl, by kernel_rfl, by kernel_rfl⟩
noncomputable def F_laws_FnExactGetOk : FnI := ⟨11, bodyOf Try.f11, 27, [.tmp 2], [0, 1, 2, 3, 4, 5, 6, 11, 21, 26], fun  | _ => [], 0, .fresh⟩
theorem ok_laws_FnExactGetOk : FnOk Try.prog F_laws_FnExactGetOk := ⟨_, Try.func11, rfl, by kernel_rfl, by kernel_rfl, by kernel_rfl⟩
noncomputable def F_laws_FnExactGetDone : FnI := ⟨12, bodyOf Try.f12, 27, [.tmp 2], [0, 1, 2, 3, 4, 5, 6, 11, 21, 26], fun  | _ => [], 0, .fresh⟩
theorem ok_laws_FnExactGetDone : FnOk Try.prog F_laws_FnExactGetDone := ⟨_, Try.func12, rfl, by kernel_rfl, by kernel_rfl, by kernel_rfl⟩
noncomputable def F_laws_FnExactGetWindows : FnI := ⟨13, bodyOf Try.f13, 27, [.tmp 2], [0, 1, 2, 3, 4, 5, 6, 11, 21, 26], fun  | _ => [], 0, .fresh⟩
theorem ok_laws_FnExactGetWindows : FnOk Try.prog F_laws_FnExactGetWindows := ⟨_, Try.func13, rfl, by kernel_rfl, by kernel_rfl, by kernel_rfl⟩
noncomputable def F_laws_FnExactGetText : FnI := ⟨14, bodyOf Try.f14, 27, [.tmp 2], [0, 1, 2, 3, 4, 5, 6, 11, 21, 26], fun  | _ => [], 0, .fresh⟩
theorem ok_laws_FnExactGetText : FnOk Try.prog F_laws_FnExactGetText := ⟨_, Try.func14, rfl, by kernel_rfl, by kernel_rfl, by kernel_rfl⟩
noncomputable def F_spec_DrawRowXor : FnI := ⟨15, bodyOf Try.f15, 14, [.tmp 2, .tmp 3], [0, 2, 3, 4], fun  | _ => [], 0, .fresh⟩
theorem ok_spec_DrawRowXor : FnOk Try.prog F_spec_DrawRowXor := ⟨_, Try.func15, rfl, by kernel_rfl, by kernel_rfl, by kernel_rfl⟩
noncomputable def F_impl_RowXor : FnI := ⟨16, bodyOf Try.f16, 20, [.tmp 4], [0, 1, 4, 12], fun  | _ => [], 0, .mix [.own]⟩
theorem ok_impl_RowXor : FnOk Try.prog F_impl_RowXor := ⟨_, Try.func16, rfl, by kernel_rfl, by kernel_rfl, by kernel_rfl⟩
noncomputable def F_laws_whInts : FnI := ⟨17, bodyOf Try.f17, 26, [.tmp 4], [0, 1, 4, 5, 10, 14, 25], fun | 4 => [0, 1, 5] | _ => [], 0, .fresh⟩
theorem ok_laws_whInts : FnOk Try.prog F_laws_whInts := ⟨_, Try.func17, rfl, by kernel_rfl, by kernel_rfl, by kernel_rfl⟩
noncomputable def F_spec_RowXor : FnI := ⟨18, bodyOf Try.f18, 17, [.tmp 4], [0, 1, 4, 12], fun  | _ => [], 0, .fresh⟩
theorem ok_spec_RowXor : FnOk Try.prog F_spec_RowXor := ⟨_, Try.func18, rfl, by kernel_rfl, by kernel_rfl, by kernel_rfl⟩
noncomputable def F_impl_RowOk : FnI := ⟨19, bodyOf Try.f19, 35, [.tmp 4], [0, 1, 4, 5, 6, 7, 8, 9, 10, 31], fun | 2 => [0, 1, 7, 8, 9] | _ => [], 0, .fresh⟩
theorem ok_impl_RowOk : FnOk Try.prog F_impl_RowOk := ⟨_, Try.func19, rfl, by kernel_rfl, by kernel_rfl, by kernel_rfl⟩
noncomputable def F_spec_RowOk : FnI := ⟨20, bodyOf Try.f20, 38, [.tmp 4], [0, 1, 4, 5, 9, 35], fun | 2 => [0, 1, 5] | _ => [], 0, .fresh⟩
theorem ok_spec_RowOk : FnOk Try.prog F_spec_RowOk := ⟨_, Try.func20, rfl, by kernel_rfl, by kernel_rfl, by kernel_rfl⟩
noncomputable def F_laws_whHas : FnI := ⟨21, bodyOf Try.f21, 18, [.tmp 4], [0, 1, 4, 5, 9, 17], fun | 2 => [0, 1, 5] | _ => [], 0, .fresh⟩
theorem ok_laws_whHas : FnOk Try.prog F_laws_whHas := ⟨_, Try.func21, rfl, by kernel_rfl, by kernel_rfl, by kernel_rfl⟩
noncomputable def F_laws_szSolver : FnI := ⟨22, bodyOf Try.f22, 12, [.tmp 4], [0, 1, 2, 4, 10], fun  | _ => [], 0, .fresh⟩
theorem ok_laws_szSolver : FnOk Try.prog F_laws_szSolver := ⟨_, Try.func22, rfl, by kernel_rfl, by kernel_rfl, by kernel_rfl⟩
noncomputable def F_spec_SolverOk : FnI := ⟨23, bodyOf Try.f23, 103, [.tmp 2], [0, 1, 2, 3, 4, 5, 6, 16, 21, 68, 73, 80, 102], fun | 13 => [1, 5, 6] | 10 => [1, 5] | 4 => [1, 3] | _ => [], 0, .fresh⟩
theorem ok_spec_SolverOk : FnOk Try.prog F_spec_SolverOk := ⟨_, Try.func23, rfl, by kernel_rfl, by kernel_rfl, by kernel_rfl⟩
noncomputable def F_laws_toSolver : FnI := ⟨24, bodyOf Try.f24, 15, [.cell 2 37], [0, 1, 2, 3], fun  | _ => [], 0, .mix [.own]⟩
theorem ok_laws_toSolver : FnOk Try.prog F_laws_toSolver := ⟨_, Try.func24, rfl, by kernel_rfl, by kernel_rfl, by kernel_rfl⟩
noncomputable def F_impl_SolverOk : FnI := ⟨25, bodyOf Try.f25, 89, [.tmp 2], [0, 1, 2, 3, 4, 5, 7, 17, 19, 20, 21, 22, 65, 75, 76, 77, 78, 87], fun | 12 => [3, 75, 76, 77] | 5 => [1, 3, 19, 20, 21] | _ => [], 0, .fresh⟩
theorem ok_impl_SolverOk : FnOk Try.prog F_impl_SolverOk := ⟨_, Try.func25, rfl, by kernel_rfl, by kernel_rfl, by kernel_rfl⟩
noncomputable def F_laws_eqSolver : FnI := ⟨26, bodyOf Try.f26, 21, [.tmp 4], [0, 1, 2, 3, 4, 9, 14, 20], fun  | _ => [], 0, .fresh⟩
theorem ok_laws_eqSolver : FnOk Try.prog F_laws_eqSolver := ⟨_, Try.func26, rfl, by kernel_rfl, by kernel_rfl, by kernel_rfl⟩
noncomputable def F_laws_szPlan : FnI := ⟨27, bodyOf Try.f27, 18, [.tmp 4], [0, 1, 2, 4, 10, 16], fun  | _ => [], 0, .fresh⟩
theorem ok_laws_szPlan : FnOk Try.prog F_laws_szPlan := ⟨_, Try.func27, rfl, by kernel_rfl, by kernel_rfl, by kernel_rfl⟩
noncomputable def F_spec_PlanCut : FnI := ⟨28, bodyOf Try.f28, 19, [.tmp 4], [0, 1, 2, 4, 14], fun  | _ => [], 0, .fresh⟩
theorem ok_spec_PlanCut : FnOk Try.prog F_spec_PlanCut := ⟨_, Try.func28, rfl, by kernel_rfl, by kernel_rfl, by kernel_rfl⟩
noncomputable def F_laws_toPlan : FnI := ⟨29, bodyOf Try.f29, 19, [.cell 2 46], [0, 1, 2, 3], fun  | _ => [], 0, .fresh⟩
theorem ok_laws_toPlan : FnOk Try.prog F_laws_toPlan := ⟨_, Try.func29, rfl, by kernel_rfl, by kernel_rfl, by kernel_rfl⟩
noncomputable def F_impl_PlanCut : FnI := ⟨30, bodyOf Try.f30, 49, [.tmp 4], [0, 1, 2, 4, 5, 6, 17, 33], fun | 6 => [1, 2, 5, 6] | _ => [], 0, .fresh⟩
theorem ok_impl_PlanCut : FnOk Try.prog F_impl_PlanCut := ⟨_, Try.func30, rfl, by kernel_rfl, by kernel_rfl, by kernel_rfl⟩
noncomputable def F_laws_eqStringS : FnI := ⟨31, bodyOf Try.f31, 26, [.tmp 4], [0, 1, 4, 5, 10, 14, 25], fun | 4 => [0, 1, 5] | _ => [], 0, .fresh⟩
theorem ok_laws_eqStringS : FnOk Try.prog F_laws_eqStringS := ⟨_, Try.func31, rfl, by kernel_rfl, by kernel_rfl, by kernel_rfl⟩
noncomputable def F_laws_eqPlan : FnI := ⟨32, bodyOf Try.f32, 27, [.tmp 4], [0, 1, 2, 3, 4, 9, 14, 20, 26], fun  | _ => [], 0, .fresh⟩
theorem ok_laws_eqPlan : FnOk Try.prog F_laws_eqPlan := ⟨_, Try.func32, rfl, by kernel_rfl, by kernel_rfl, by kernel_rfl⟩
noncomputable def F_laws_markPlan : FnI := ⟨33, bodyOf Try.f33, 14, [.tmp 4], [0, 1, 2, 4], fun  | _ => [], 0, .fresh⟩
theorem ok_laws_markPlan : FnOk Try.prog F_laws_markPlan := ⟨_, Try.func33, rfl, by kernel_rfl, by kernel_rfl, by kernel_rfl⟩
noncomputable def F_laws_markStringS : FnI := ⟨34, bodyOf Try.f34, 20, [.tmp 4], [0, 1, 4, 5, 9], fun | 2 => [0, 1, 5] | _ => [], 0, .fresh⟩
theorem ok_laws_markStringS : FnOk Try.prog F_laws_markStringS := ⟨_, Try.func34, rfl, by kernel_rfl, by kernel_rfl, by kernel_rfl⟩
noncomputable def F_laws_heldStringS : FnI := ⟨35, bodyOf Try.f35, 22, [.tmp 4], [0, 1, 4, 5, 9, 18], fun | 2 => [0, 1, 5] | _ => [], 0, .fresh⟩
theorem ok_laws_heldStringS : FnOk Try.prog F_laws_heldStringS := ⟨_, Try.func35, rfl, by kernel_rfl, by kernel_rfl, by kernel_rfl⟩
noncomputable def F_spec_DrawPlanCut : FnI := ⟨36, bodyOf Try.f36, 24, [.cell 2 46, .tmp 3], [0, 2, 3, 4, 5, 6, 15, 19], fun  | _ => [], 0, .fresh⟩
theorem ok_spec_DrawPlanCut : FnOk Try.prog F_spec_DrawPlanCut := ⟨_, Try.func36, rfl, by kernel_rfl, by kernel_rfl, by kernel_rfl⟩
noncomputable def F_laws_whWords : FnI := ⟨37, bodyOf Try.f37, 26, [.tmp 4], [0, 1, 4, 5, 10, 14, 25], fun | 4 => [0, 1, 5] | _ => [], 0, .fresh⟩
theorem ok_laws_whWords : FnOk Try.prog F_laws_whWords := ⟨_, Try.func37, rfl, by kernel_rfl, by kernel_rfl, by kernel_rfl⟩
noncomputable def F_impl_PlanCount : FnI := ⟨38, bodyOf Try.f38, 8, [.tmp 2], [0, 1, 2, 5], fun  | _ => [], 0, .fresh⟩
theorem ok_impl_PlanCount : FnOk Try.prog F_impl_PlanCount := ⟨_, Try.func38, rfl, by kernel_rfl, by kernel_rfl, by kernel_rfl⟩
noncomputable def F_spec_SolverRank : FnI := ⟨39, bodyOf Try.f39, 9, [.tmp 2], [0, 1, 2, 5], fun  | _ => [], 0, .fresh⟩
theorem ok_spec_SolverRank : FnOk Try.prog F_spec_SolverRank := ⟨_, Try.func39, rfl, by kernel_rfl, by kernel_rfl, by kernel_rfl⟩
noncomputable def F_impl_SolverRank : FnI := ⟨40, bodyOf Try.f40, 9, [.tmp 2], [0, 1, 2, 5], fun  | _ => [], 0, .fresh⟩
theorem ok_impl_SolverRank : FnOk Try.prog F_impl_SolverRank := ⟨_, Try.func40, rfl, by kernel_rfl, by kernel_rfl, by kernel_rfl⟩
noncomputable def F_spec_SolverGet : FnI := ⟨41, bodyOf Try.f41, 14, [.tmp 4, .tmp 5], [0, 1, 2, 4, 5, 8], fun  | _ => [], 0, .fresh⟩
theorem ok_spec_SolverGet : FnOk Try.prog F_spec_SolverGet := ⟨_, Try.func41, rfl, by kernel_rfl, by kernel_rfl, by kernel_rfl⟩
noncomputable def F_impl_SolverGet : FnI := ⟨42, bodyOf Try.f42, 14, [.tmp 4, .tmp 5], [0, 1, 2, 4, 5, 8], fun  | _ => [], 0, .fresh⟩
theorem ok_impl_SolverGet : FnOk Try.prog F_impl_SolverGet := ⟨_, Try.func42, rfl, by kernel_rfl, by kernel_rfl, by kernel_rfl⟩
noncomputable def F_spec_SolverPrefix : FnI := ⟨43, bodyOf Try.f43, 8, [.tmp 2], [0, 1, 2, 5], fun  | _ => [], 0, .fresh⟩
theorem ok_spec_SolverPrefix : FnOk Try.prog F_spec_SolverPrefix := ⟨_, Try.func43, rfl, by kernel_rfl, by kernel_rfl, by kernel_rfl⟩
noncomputable def F_impl_SolverPrefix : FnI := ⟨44, bodyOf Try.f44, 8, [.tmp 2], [0, 1, 2, 5], fun  | _ => [], 0, .fresh⟩
theorem ok_impl_SolverPrefix : FnOk Try.prog F_impl_SolverPrefix := ⟨_, Try.func44, rfl, by kernel_rfl, by kernel_rfl, by kernel_rfl⟩
noncomputable def F_spec_GetNew : FnI := ⟨45, bodyOf Try.f45, 15, [.cell 2 61], [0, 1, 2, 5], fun  | _ => [], 0, .alias⟩
theorem ok_spec_GetNew : FnOk Try.prog F_spec_GetNew := ⟨_, Try.func45, rfl, by kernel_rfl, by kernel_rfl, by kernel_rfl⟩
noncomputable def F_impl_GetNew : FnI := ⟨46, bodyOf Try.f46, 15, [.cell 2 61], [0, 1, 2, 5], fun  | _ => [], 0, .alias⟩
theorem ok_impl_GetNew : FnOk Try.prog F_impl_GetNew := ⟨_, Try.func46, rfl, by kernel_rfl, by kernel_rfl, by kernel_rfl⟩
noncomputable def F_laws_eqGetting : FnI := ⟨47, bodyOf Try.f47, 17, [.tmp 4], [0, 1, 2, 3, 4, 10, 16], fun  | _ => [], 0, .fresh⟩
theorem ok_laws_eqGetting : FnOk Try.prog F_laws_eqGetting := ⟨_, Try.func47, rfl, by kernel_rfl, by kernel_rfl, by kernel_rfl⟩
noncomputable def F_laws_markGetting : FnI := ⟨48, bodyOf Try.f48, 14, [.tmp 4], [0, 1, 2, 4], fun  | _ => [], 0, .fresh⟩
theorem ok_laws_markGetting : FnOk Try.prog F_laws_markGetting := ⟨_, Try.func48, rfl, by kernel_rfl, by kernel_rfl, by kernel_rfl⟩
noncomputable def F_laws_heldGetting : FnI := ⟨49, bodyOf Try.f49, 18, [.tmp 4], [0, 1, 2, 4, 10, 16], fun  | _ => [], 0, .fresh⟩
theorem ok_laws_heldGetting : FnOk Try.prog F_laws_heldGetting := ⟨_, Try.func49, rfl, by kernel_rfl, by kernel_rfl, by kernel_rfl⟩
noncomputable def F_laws_szGetting : FnI := ⟨50, bodyOf Try.f50, 18, [.tmp 4], [0, 1, 2, 4, 10, 16], fun  | _ => [], 0, .fresh⟩
theorem ok_laws_szGetting : FnOk Try.prog F_laws_szGetting := ⟨_, Try.func50, rfl, by kernel_rfl, by kernel_rfl, by kernel_rfl⟩
noncomputable def F_spec_GetOk : FnI := ⟨51, bodyOf Try.f51, 29, [.tmp 2], [0, 1, 2], fun  | _ => [], 0, .fresh⟩
theorem ok_spec_GetOk : FnOk Try.prog F_spec_GetOk := ⟨_, Try.func51, rfl, by kernel_rfl, by kernel_rfl, by kernel_rfl⟩
noncomputable def F_laws_toGetting : FnI := ⟨52, bodyOf Try.f52, 13, [.cell 2 61], [0, 1, 2, 3], fun  | _ => [], 0, .fresh⟩
theorem ok_laws_toGetting : FnOk Try.prog F_laws_toGetting := ⟨_, Try.func52, rfl, by kernel_rfl, by kernel_rfl, by kernel_rfl⟩
noncomputable def F_impl_GetOk : FnI := ⟨53, bodyOf Try.f53, 29, [.tmp 2], [0, 1, 2], fun  | _ => [], 0, .fresh⟩
theorem ok_impl_GetOk : FnOk Try.prog F_impl_GetOk := ⟨_, Try.func53, rfl, by kernel_rfl, by kernel_rfl, by kernel_rfl⟩
noncomputable def F_spec_GetDone : FnI := ⟨54, bodyOf Try.f54, 15, [.tmp 2], [0, 1, 2], fun  | _ => [], 0, .fresh⟩
theorem ok_spec_GetDone : FnOk Try.prog F_spec_GetDone := ⟨_, Try.func54, rfl, by kernel_rfl, by kernel_rfl, by kernel_rfl⟩
noncomputable def F_impl_GetDone : FnI := ⟨55, bodyOf Try.f55, 9, [.tmp 2], [0, 1, 2], fun  | _ => [], 0, .fresh⟩
theorem ok_impl_GetDone : FnOk Try.prog F_impl_GetDone := ⟨_, Try.func55, rfl, by kernel_rfl, by kernel_rfl, by kernel_rfl⟩
noncomputable def F_spec_GetWindows : FnI := ⟨56, bodyOf Try.f56, 8, [.tmp 2], [0, 1, 2, 5], fun  | _ => [], 0, .fresh⟩
theorem ok_spec_GetWindows : FnOk Try.prog F_spec_GetWindows := ⟨_, Try.func56, rfl, by kernel_rfl, by kernel_rfl, by kernel_rfl⟩
noncomputable def F_impl_GetWindows : FnI := ⟨57, bodyOf Try.f57, 8, [.tmp 2], [0, 1, 2, 5], fun  | _ => [], 0, .fresh⟩
theorem ok_impl_GetWindows : FnOk Try.prog F_impl_GetWindows := ⟨_, Try.func57, rfl, by kernel_rfl, by kernel_rfl, by kernel_rfl⟩
noncomputable def F_spec_GetText : FnI := ⟨58, bodyOf Try.f58, 8, [.tmp 2], [0, 1, 2, 5], fun  | _ => [], 0, .fresh⟩
theorem ok_spec_GetText : FnOk Try.prog F_spec_GetText := ⟨_, Try.func58, rfl, by kernel_rfl, by kernel_rfl, by kernel_rfl⟩
noncomputable def F_impl_GetText : FnI := ⟨59, bodyOf Try.f59, 35, [.tmp 2], [0, 1, 2, 3, 4, 5, 9, 12, 13, 14], fun | 5 => [1, 3, 12, 13] | _ => [], 0, .fresh⟩
theorem ok_impl_GetText : FnOk Try.prog F_impl_GetText := ⟨_, Try.func59, rfl, by kernel_rfl, by kernel_rfl, by kernel_rfl⟩
noncomputable def F_spec_l1Open : FnI := ⟨60, bodyOf Try.f60, 11, [.tmp 2], [0, 2, 5], fun  | _ => [], 0, .alias⟩
theorem ok_spec_l1Open : FnOk Try.prog F_spec_l1Open := ⟨_, Try.func60, rfl, by kernel_rfl, by kernel_rfl, by kernel_rfl⟩
noncomputable def F_spec_l15BadRow : FnI := ⟨61, bodyOf Try.f61, 28, [.tmp 4], [0, 1, 4, 5, 10, 11, 17, 22], fun  | _ => [], 1, .mix [.own]⟩
theorem ok_spec_l15BadRow : FnOk Try.prog F_spec_l15BadRow := ⟨_, Try.func61, rfl, by kernel_rfl, by kernel_rfl, by kernel_rfl⟩
noncomputable def F_spec_l1Rd_pick : FnI := ⟨62, bodyOf Try.f62, 99, [.tmp 4], [0, 1, 4, 5, 6, 24, 36], fun  | _ => [], 1, .fresh⟩
theorem ok_spec_l1Rd_pick : FnOk Try.prog F_spec_l1Rd_pick := ⟨_, Try.func62, rfl, by kernel_rfl, by kernel_rfl, by kernel_rfl⟩
noncomputable def F_impl_rowOf : FnI := ⟨63, bodyOf Try.f63, 20, [.tmp 2], [0, 2, 3, 4, 6, 7, 13], fun | 3 => [0, 3, 6] | _ => [], 0, .mix [.own]⟩
theorem ok_impl_rowOf : FnOk Try.prog F_impl_rowOf := ⟨_, Try.func63, rfl, by kernel_rfl, by kernel_rfl, by kernel_rfl⟩
noncomputable def F_impl_mask : FnI := ⟨64, bodyOf Try.f64, 18, [.tmp 2], [0, 2, 3, 5, 6, 7, 8, 9], fun | 3 => [3, 6, 7, 8] | _ => [], 0, .fresh⟩
theorem ok_impl_mask : FnOk Try.prog F_impl_mask := ⟨_, Try.func64, rfl, by kernel_rfl, by kernel_rfl, by kernel_rfl⟩
noncomputable def F_spec_l2Xor : FnI := ⟨65, bodyOf Try.f65, 80, [.tmp 4], [0, 1, 4, 5, 6, 7, 18, 23, 54], fun | 4 => [0, 1, 5, 6, 7] | _ => [], 0, .mix [.own]⟩
theorem ok_spec_l2Xor : FnOk Try.prog F_spec_l2Xor := ⟨_, Try.func65, rfl, by kernel_rfl, by kernel_rfl, by kernel_rfl⟩
noncomputable def F_impl_within : FnI := ⟨66, bodyOf Try.f66, 15, [.tmp 6], [0, 1, 2, 6], fun  | _ => [], 0, .fresh⟩
theorem ok_impl_within : FnOk Try.prog F_impl_within := ⟨_, Try.func66, rfl, by kernel_rfl, by kernel_rfl, by kernel_rfl⟩
noncomputable def F_spec_l1In : FnI := ⟨67, bodyOf Try.f67, 15, [.tmp 6], [0, 1, 2, 6], fun  | _ => [], 0, .fresh⟩
theorem ok_spec_l1In : FnOk Try.prog F_spec_l1In := ⟨_, Try.func67, rfl, by kernel_rfl, by kernel_rfl, by kernel_rfl⟩
noncomputable def F_laws_szEqS : FnI := ⟨68, bodyOf Try.f68, 27, [.tmp 4], [0, 1, 4, 5, 11, 15, 25], fun | 5 => [0, 1, 5] | _ => [], 0, .fresh⟩
theorem ok_laws_szEqS : FnOk Try.prog F_laws_szEqS := ⟨_, Try.func68, rfl, by kernel_rfl, by kernel_rfl, by kernel_rfl⟩
noncomputable def F_spec_l3Has : FnI := ⟨69, bodyOf Try.f69, 18, [.tmp 4], [0, 1, 4, 5, 9, 17], fun | 2 => [0, 1, 5] | _ => [], 0, .fresh⟩
theorem ok_spec_l3Has : FnOk Try.prog F_spec_l3Has := ⟨_, Try.func69, rfl, by kernel_rfl, by kernel_rfl, by kernel_rfl⟩
noncomputable def F_laws_toEqS : FnI := ⟨70, bodyOf Try.f70, 23, [.tmp 2], [0, 2, 3, 4, 11], fun | 3 => [0, 3, 4] | _ => [], 0, .mix [.own]⟩
theorem ok_laws_toEqS : FnOk Try.prog F_laws_toEqS := ⟨_, Try.func70, rfl, by kernel_rfl, by kernel_rfl, by kernel_rfl⟩
noncomputable def F_laws_eqEqS : FnI := ⟨71, bodyOf Try.f71, 27, [.tmp 4], [0, 1, 4, 5, 10, 14, 26], fun | 4 => [0, 1, 5] | _ => [], 0, .fresh⟩
theorem ok_laws_eqEqS : FnOk Try.prog F_laws_eqEqS := ⟨_, Try.func71, rfl, by kernel_rfl, by kernel_rfl, by kernel_rfl⟩
noncomputable def F_laws_szIntS : FnI := ⟨72, bodyOf Try.f72, 12, [.tmp 4], [0, 1, 4, 10], fun  | _ => [], 0, .fresh⟩
theorem ok_laws_szIntS : FnOk Try.prog F_laws_szIntS := ⟨_, Try.func72, rfl, by kernel_rfl, by kernel_rfl, by kernel_rfl⟩
noncomputable def F_spec_PlanOk : FnI := ⟨73, bodyOf Try.f73, 90, [.tmp 2], [0, 1, 2, 3, 35, 40, 78], fun | 4 => [1, 3] | _ => [], 0, .fresh⟩
theorem ok_spec_PlanOk : FnOk Try.prog F_spec_PlanOk := ⟨_, Try.func73, rfl, by kernel_rfl, by kernel_rfl, by kernel_rfl⟩
noncomputable def F_spec_l5Cut : FnI := ⟨74, bodyOf Try.f74, 41, [.tmp 4], [0, 1, 2, 4, 5, 6, 7, 23], fun | 4 => [2, 5, 6, 7] | _ => [], 0, .fresh⟩
theorem ok_spec_l5Cut : FnOk Try.prog F_spec_l5Cut := ⟨_, Try.func74, rfl, by kernel_rfl, by kernel_rfl, by kernel_rfl⟩
noncomputable def F_laws_toIntS : FnI := ⟨75, bodyOf Try.f75, 22, [.tmp 2], [0, 2, 3, 4, 11], fun | 3 => [0, 3, 4] | _ => [], 0, .mix [.own]⟩
theorem ok_laws_toIntS : FnOk Try.prog F_laws_toIntS := ⟨_, Try.func75, rfl, by kernel_rfl, by kernel_rfl, by kernel_rfl⟩
noncomputable def F_impl_PlanOk : FnI := ⟨76, bodyOf Try.f76, 84, [.tmp 2], [0, 1, 2, 3, 4, 19, 46, 48, 49, 50, 51, 82], fun | 6 => [1, 48, 49, 50] | _ => [], 0, .fresh⟩
theorem ok_impl_PlanOk : FnOk Try.prog F_impl_PlanOk := ⟨_, Try.func76, rfl, by kernel_rfl, by kernel_rfl, by kernel_rfl⟩
noncomputable def F_impl_zeros : FnI := ⟨77, bodyOf Try.f77, 6, [.tmp 2], [0, 2], fun  | _ => [], 0, .fresh⟩
theorem ok_impl_zeros : FnOk Try.prog F_impl_zeros := ⟨_, Try.func77, rfl, by kernel_rfl, by kernel_rfl, by kernel_rfl⟩
noncomputable def F_impl_Plan_count : FnI := ⟨78, bodyOf Try.f78, 12, [.tmp 2], [0, 1, 2], fun  | _ => [], 0, .fresh⟩
theorem ok_impl_Plan_count : FnOk Try.prog F_impl_Plan_count := ⟨_, Try.func78, rfl, by kernel_rfl, by kernel_rfl, by kernel_rfl⟩
noncomputable def F_laws_eqIntS : FnI := ⟨79, bodyOf Try.f79, 26, [.tmp 4], [0, 1, 4, 5, 10, 14, 25], fun | 4 => [0, 1, 5] | _ => [], 0, .fresh⟩
theorem ok_laws_eqIntS : FnOk Try.prog F_laws_eqIntS := ⟨_, Try.func79, rfl, by kernel_rfl, by kernel_rfl, by kernel_rfl⟩
noncomputable def F_laws_markIntS : FnI := ⟨80, bodyOf Try.f80, 19, [.tmp 4], [0, 1, 4, 5, 9], fun | 2 => [0, 1, 5] | _ => [], 0, .fresh⟩
theorem ok_laws_markIntS : FnOk Try.prog F_laws_markIntS := ⟨_, Try.func80, rfl, by kernel_rfl, by kernel_rfl, by kernel_rfl⟩
noncomputable def F_laws_markText : FnI := ⟨81, bodyOf Try.f81, 20, [.tmp 2], [0, 2, 3, 5, 7], fun | 4 => [0, 3] | _ => [], 0, .fresh⟩
theorem ok_laws_markText : FnOk Try.prog F_laws_markText := ⟨_, Try.func81, rfl, by kernel_rfl, by kernel_rfl, by kernel_rfl⟩
noncomputable def F_spec_l15AnyPlan : FnI := ⟨82, bodyOf Try.f82, 13, [.cell 2 46], [0, 2, 3, 8], fun  | _ => [], 1, .fresh⟩
theorem ok_spec_l15AnyPlan : FnOk Try.prog F_spec_l15AnyPlan := ⟨_, Try.func82, rfl, by kernel_rfl, by kernel_rfl, by kernel_rfl⟩
noncomputable def F_spec_l15Thing : FnI := ⟨83, bodyOf Try.f83, 21, [.tmp 4], [0, 1, 4, 5, 6, 10], fun | 3 => [0, 1, 5, 6] | _ => [], 1, .fresh⟩
theorem ok_spec_l15Thing : FnOk Try.prog F_spec_l15Thing := ⟨_, Try.func83, rfl, by kernel_rfl, by kernel_rfl, by kernel_rfl⟩
noncomputable def F_spec_l3Get : FnI := ⟨84, bodyOf Try.f84, 40, [.tmp 4, .tmp 5], [0, 1, 2, 4, 5, 6, 11, 33], fun | 2 => [1, 2, 6] | _ => [], 0, .fresh⟩
theorem ok_spec_l3Get : FnOk Try.prog F_spec_l3Get := ⟨_, Try.func84, rfl, by kernel_rfl, by kernel_rfl, by kernel_rfl⟩
noncomputable def F_impl_Solver_get : FnI := ⟨85, bodyOf Try.f85, 30, [.tmp 4, .tmp 5], [0, 1, 2, 4, 5, 7, 9, 10, 11, 12, 26], fun | 2 => [1, 9, 10, 11] | _ => [], 0, .fresh⟩
theorem ok_impl_Solver_get : FnOk Try.prog F_impl_Solver_get := ⟨_, Try.func85, rfl, by kernel_rfl, by kernel_rfl, by kernel_rfl⟩
noncomputable def F_spec_l3Prefix : FnI := ⟨86, bodyOf Try.f86, 17, [.tmp 2], [0, 1, 2, 3, 5, 13], fun | 2 => [1, 3] | _ => [], 0, .fresh⟩
theorem ok_spec_l3Prefix : FnOk Try.prog F_spec_l3Prefix := ⟨_, Try.func86, rfl, by kernel_rfl, by kernel_rfl, by kernel_rfl⟩
noncomputable def F_impl_Solver_prefix : FnI := ⟨87, bodyOf Try.f87, 21, [.tmp 2], [0, 1, 2, 3, 5, 9, 17], fun | 2 => [1, 3] | _ => [], 0, .fresh⟩
theorem ok_impl_Solver_prefix : FnOk Try.prog F_impl_Solver_prefix := ⟨_, Try.func87, rfl, by kernel_rfl, by kernel_rfl, by kernel_rfl⟩
noncomputable def F_spec_l6Plan : FnI := ⟨88, bodyOf Try.f88, 14, [.cell 2 46], [0, 1, 2], fun  | _ => [], 0, .mix [.own,.own]⟩
theorem ok_spec_l6Plan : FnOk Try.prog F_spec_l6Plan := ⟨_, Try.func88, rfl, by kernel_rfl, by kernel_rfl, by kernel_rfl⟩
noncomputable def F_spec_SolverNew : FnI := ⟨89, bodyOf Try.f89, 17, [.cell 4 37], [0, 1, 4, 12], fun  | _ => [], 0, .alias⟩
theorem ok_spec_SolverNew : FnOk Try.prog F_spec_SolverNew := ⟨_, Try.func89, rfl, by kernel_rfl, by kernel_rfl, by kernel_rfl⟩
noncomputable def F_spec_l5Count : FnI := ⟨90, bodyOf Try.f90, 12, [.tmp 2], [0, 1, 2], fun  | _ => [], 0, .fresh⟩
theorem ok_spec_l5Count : FnOk Try.prog F_spec_l5Count := ⟨_, Try.func90, rfl, by kernel_rfl, by kernel_rfl, by kernel_rfl⟩
noncomputable def F_impl_clonePlan : FnI := ⟨91, bodyOf Try.f91, 16, [.cell 2 46], [0, 1, 2], fun  | _ => [], 0, .mix [.own,.own]⟩
theorem ok_impl_clonePlan : FnOk Try.prog F_impl_clonePlan := ⟨_, Try.func91, rfl, by kernel_rfl, by kernel_rfl, by kernel_rfl⟩
noncomputable def F_impl_SolverNew : FnI := ⟨92, bodyOf Try.f92, 18, [.cell 4 37], [0, 1, 4, 12], fun  | _ => [], 0, .alias⟩
theorem ok_impl_SolverNew : FnOk Try.prog F_impl_SolverNew := ⟨_, Try.func92, rfl, by kernel_rfl, by kernel_rfl, by kernel_rfl⟩
noncomputable def F_laws_markSolver : FnI := ⟨93, bodyOf Try.f93, 10, [.tmp 4], [0, 1, 2, 4], fun  | _ => [], 0, .fresh⟩
theorem ok_laws_markSolver : FnOk Try.prog F_laws_markSolver := ⟨_, Try.func93, rfl, by kernel_rfl, by kernel_rfl, by kernel_rfl⟩
noncomputable def F_laws_heldPlan : FnI := ⟨94, bodyOf Try.f94, 18, [.tmp 4], [0, 1, 2, 4, 10, 16], fun  | _ => [], 0, .fresh⟩
theorem ok_laws_heldPlan : FnOk Try.prog F_laws_heldPlan := ⟨_, Try.func94, rfl, by kernel_rfl, by kernel_rfl, by kernel_rfl⟩
noncomputable def F_laws_heldSolver : FnI := ⟨95, bodyOf Try.f95, 12, [.tmp 4], [0, 1, 2, 4, 10], fun  | _ => [], 0, .fresh⟩
theorem ok_laws_heldSolver : FnOk Try.prog F_laws_heldSolver := ⟨_, Try.func95, rfl, by kernel_rfl, by kernel_rfl, by kernel_rfl⟩
noncomputable def F_impl_Getting_done : FnI := ⟨96, bodyOf Try.f96, 10, [.tmp 2], [0, 1, 2], fun  | _ => [], 0, .fresh⟩
theorem ok_impl_Getting_done : FnOk Try.prog F_impl_Getting_done := ⟨_, Try.func96, rfl, by kernel_rfl, by kernel_rfl, by kernel_rfl⟩
noncomputable def F_spec_l6Windows : FnI := ⟨97, bodyOf Try.f97, 27, [.tmp 2], [0, 1, 2, 3, 4, 23], fun | 3 => [1, 3, 4] | _ => [], 0, .fresh⟩
theorem ok_spec_l6Windows : FnOk Try.prog F_spec_l6Windows := ⟨_, Try.func97, rfl, by kernel_rfl, by kernel_rfl, by kernel_rfl⟩
noncomputable def F_impl_Getting_windows : FnI := ⟨98, bodyOf Try.f98, 25, [.tmp 2], [0, 1, 2, 3, 21], fun | 2 => [1, 3] | _ => [], 0, .fresh⟩
theorem ok_impl_Getting_windows : FnOk Try.prog F_impl_Getting_windows := ⟨_, Try.func98, rfl, by kernel_rfl, by kernel_rfl, by kernel_rfl⟩
noncomputable def F_spec_l6Text : FnI := ⟨99, bodyOf Try.f99, 36, [.tmp 2], [0, 1, 2, 3, 4, 5, 11, 29], fun | 3 => [1, 3, 4] | _ => [], 0, .fresh⟩
theorem ok_spec_l6Text : FnOk Try.prog F_spec_l6Text := ⟨_, Try.func99, rfl, by kernel_rfl, by kernel_rfl, by kernel_rfl⟩
noncomputable def F_spec_l15Row : FnI := ⟨100, bodyOf Try.f100, 21, [.tmp 4], [0, 1, 4, 5, 6, 10, 15], fun | 3 => [0, 1, 5, 6] | _ => [], 1, .mix [.own]⟩
theorem ok_spec_l15Row : FnOk Try.prog F_spec_l15Row := ⟨_, Try.func100, rfl, by kernel_rfl, by kernel_rfl, by kernel_rfl⟩
noncomputable def F_laws_szEq : FnI := ⟨101, bodyOf Try.f101, 19, [.tmp 4], [0, 1, 2, 4, 10, 17], fun  | _ => [], 0, .fresh⟩
theorem ok_laws_szEq : FnOk Try.prog F_laws_szEq := ⟨_, Try.func101, rfl, by kernel_rfl, by kernel_rfl, by kernel_rfl⟩
noncomputable def F_laws_toEq : FnI := ⟨102, bodyOf Try.f102, 12, [.cell 2 84], [0, 1, 2, 3], fun  | _ => [], 0, .mix [.new]⟩
theorem ok_laws_toEq : FnOk Try.prog F_laws_toEq := ⟨_, Try.func102, rfl, by kernel_rfl, by kernel_rfl, by kernel_rfl⟩
noncomputable def F_laws_eqEq : FnI := ⟨103, bodyOf Try.f103, 16, [.tmp 4], [0, 1, 2, 3, 4, 10, 15], fun  | _ => [], 0, .fresh⟩
theorem ok_laws_eqEq : FnOk Try.prog F_laws_eqEq := ⟨_, Try.func103, rfl, by kernel_rfl, by kernel_rfl, by kernel_rfl⟩
noncomputable def F_spec_l3Zero : FnI := ⟨104, bodyOf Try.f104, 7, [.tmp 2], [0, 2], fun  | _ => [], 0, .fresh⟩
theorem ok_spec_l3Zero : FnOk Try.prog F_spec_l3Zero := ⟨_, Try.func104, rfl, by kernel_rfl, by kernel_rfl, by kernel_rfl⟩
noncomputable def F_spec_l15Plan : FnI := ⟨105, bodyOf Try.f105, 61, [.cell 2 46], [0, 2, 3, 4, 5, 12, 25, 51], fun  | _ => [], 1, .fresh⟩
theorem ok_spec_l15Plan : FnOk Try.prog F_spec_l15Plan := ⟨_, Try.func105, rfl, by kernel_rfl, by kernel_rfl, by kernel_rfl⟩
noncomputable def F_spec_l15SpoilPlan : FnI := ⟨106, bodyOf Try.f106, 68, [.cell 4 46], [0, 1, 3, 4, 5, 9, 11, 22, 30, 45, 60], fun  | _ => [], 1, .fresh⟩
theorem ok_spec_l15SpoilPlan : FnOk Try.prog F_spec_l15SpoilPlan := ⟨_, Try.func106, rfl, by kernel_rfl, by kernel_rfl, by kernel_rfl⟩
noncomputable def F_laws_markEqS : FnI := ⟨107, bodyOf Try.f107, 28, [.tmp 4], [0, 1, 4, 5, 9], fun | 2 => [0, 1, 5] | _ => [], 0, .fresh⟩
theorem ok_laws_markEqS : FnOk Try.prog F_laws_markEqS := ⟨_, Try.func107, rfl, by kernel_rfl, by kernel_rfl, by kernel_rfl⟩
noncomputable def F_laws_heldIntS : FnI := ⟨108, bodyOf Try.f108, 21, [.tmp 4], [0, 1, 4, 5, 9, 17], fun | 2 => [0, 1, 5] | _ => [], 0, .fresh⟩
theorem ok_laws_heldIntS : FnOk Try.prog F_laws_heldIntS := ⟨_, Try.func108, rfl, by kernel_rfl, by kernel_rfl, by kernel_rfl⟩
noncomputable def F_laws_heldEqS : FnI := ⟨109, bodyOf Try.f109, 32, [.tmp 4], [0, 1, 4, 5, 9, 20, 28], fun | 2 => [0, 1, 5] | _ => [], 0, .fresh⟩
theorem ok_laws_heldEqS : FnOk Try.prog F_laws_heldEqS := ⟨_, Try.func109, rfl, by kernel_rfl, by kernel_rfl, by kernel_rfl⟩
noncomputable def F_spec_l1Many : FnI := ⟨110, bodyOf Try.f110, 20, [.tmp 4], [0, 1, 4, 5, 7, 10], fun | 2 => [0, 1, 5] | _ => [], 0, .fresh⟩
theorem ok_spec_l1Many : FnOk Try.prog F_spec_l1Many := ⟨_, Try.func110, rfl, by kernel_rfl, by kernel_rfl, by kernel_rfl⟩
noncomputable def F_spec_l5For : FnI := ⟨111, bodyOf Try.f111, 35, [.cell 2 46], [0, 2, 3, 4, 5, 10, 22], fun | 2 => [2, 3] | _ => [], 0, .fresh⟩
theorem ok_spec_l5For : FnOk Try.prog F_spec_l5For := ⟨_, Try.func111, rfl, by kernel_rfl, by kernel_rfl, by kernel_rfl⟩

end Go.Proofs.Ytaeeickboakmgaa.V
