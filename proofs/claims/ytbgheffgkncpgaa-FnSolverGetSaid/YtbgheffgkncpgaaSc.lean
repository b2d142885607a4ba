/- Tables of types, and where functions lie. Conditions: those that each theorem states. -/
import Derived.Test.YtbgheffgkncpgaaVxN1
import Derived.Test.YtbgheffgkncpgaaProg
set_option linter.unusedVariables false
set_option linter.unusedSimpArgs false
namespace Go.Proofs.Ytbgheffgkncpgaa.V
open Go Vx Go.Proofs
noncomputable def TIs : List (TypeId × TI) := [(2, ⟨.int .i64, 1, 8, [.int .i64]⟩), (3, ⟨.int .i64, 1, 8, [.int .i64]⟩), (4, ⟨.bool, 1, 1, [.bool]⟩), (5, ⟨.int .u8, 1, 1, [.int .u8]⟩), (9, ⟨.str, 1, 16, [.str]⟩), (12, ⟨.int .u64, 1, 8, [.int .u64]⟩), (13, ⟨.struct [(0, 1), (1, 1)], 2, 24, [.str, .int .u64]⟩), (21, ⟨.int .i32, 1, 4, [.int .i32]⟩), (25, ⟨.slice 5, 1, 24, [.nil (.ints .u8)]⟩), (29, ⟨.slice 9, 1, 24, [.nil .strs]⟩), (30, ⟨.slice 3, 1, 24, [.nil (.ints .i64)]⟩), (42, ⟨.slice 89, 1, 24, [.nil .eqs]⟩), (43, ⟨.struct [(0, 1), (1, 1), (2, 1)], 3, 40, [.int .i64, .int .i64, .nil .eqs]⟩), (44, ⟨.struct [(0, 1), (1, 1), (2, 1)], 3, 40, [.int .i64, .int .i64, .nil .eqs]⟩), (47, ⟨.slice 74, 1, 24, [.nil .eqs]⟩), (48, ⟨.struct [(0, 1), (1, 1), (2, 1)], 3, 40, [.int .i64, .int .i64, .nil .eqs]⟩), (49, ⟨.struct [(0, 1), (1, 1), (2, 1)], 3, 40, [.int .i64, .int .i64, .nil .eqs]⟩), (70, ⟨.int .u32, 1, 4, [.int .u32]⟩), (73, ⟨.struct [(0, 1), (1, 1)], 2, 40, [.nil (.ints .i64), .str]⟩), (74, ⟨.struct [(0, 1), (1, 1)], 2, 40, [.nil (.ints .i64), .str]⟩), (85, ⟨.struct [(0, 1), (1, 1)], 2, 32, [.nil (.ints .u8), .int .i64]⟩), (86, ⟨.struct [(0, 1), (1, 1)], 2, 32, [.nil (.ints .u8), .int .i64]⟩), (89, ⟨.struct [(0, 1), (1, 1)], 2, 40, [.nil (.ints .i64), .str]⟩)]
noncomputable def EKs : List (TypeId × RK) := [(3, (.ints .i64)), (5, (.ints .u8)), (9, .strs), (70, (.ints .u32)), (74, .eqs)]
theorem tabs (Φ : FuncId → List DA → Option Sp) : TabOk Try.prog ⟨TIs, EKs, Φ⟩ := tab_ok (by kernel_rfl)
theorem snd {F : FnI} (hf : FnOk Try.prog F) (l : List (FuncId × (List DA → Option Sp))) (hl : Sound Try.prog EKs (tabF l)) {S : List DA → Option Sp} (h : ∀ args sp, S args = some sp → sp.pre = true → sp.mode = F.mode ∧ ∃ n, runF ⟨TIs, EKs, tabF l⟩ F n args = some (sp.res, sp.outs)) : Sound1 Try.prog EKs F.f S := sound1 (cx := ⟨TIs, EKs, tabF l⟩) (tabs _) (by kernel_rfl) hl hf h
theorem mix : Try.prog.follows .mixedOrders = true := by kernel_rfl
noncomputable def cxOf (l : List (FuncId × (List DA → Option Sp))) : Cx := ⟨TIs, EKs, tabF l⟩
noncomputable def F_laws_FnExactBlockXor : FnI := ⟨3, bodyOf Try.f3, 35, [.tmp 4], [0, 1, 4, 5, 6, 7, 8, 11, 14, 34], fun  | _ => [], 0, .fresh⟩
theorem ok_laws_FnExactBlockXor : FnOk Try.prog F_laws_FnExactBlockXor := ⟨_, Try.func3, rfl, by kernel_rfl, by kernel_rfl, by kernel_rfl⟩
noncomputable def F_laws_FnBlockXor : FnI := ⟨4, bodyOf Try.f4, 86, [.tmp 2], [0, 2, 3, 4, 5, 6, 7, 8, 9, 10, 11, 12, 15, 44], fun  | _ => [], 0, .fresh⟩
theorem ok_laws_FnBlockXor : FnOk Try.prog F_laws_FnBlockXor := ⟨_, Try.func4, rfl, by kernel_rfl, by kernel_rfl, by kernel_rfl⟩
noncomputable def F_laws_FnExactRowSum : FnI := ⟨5, bodyOf Try.f5, 56, [.tmp 4], [0, 1, 4, 5, 6, 7, 8, 9, 10, 11, 14, 19, 45, 50, 55], fun  | _ => [], 0, .fresh⟩
theorem ok_laws_FnExactRowSum : FnOk Try.prog F_laws_FnExactRowSum := ⟨_, Try.func5, rfl, by kernel_rfl, by kernel_rfl, by kernel_rfl⟩
noncomputable def F_laws_FnRowSum : FnI := ⟨6, bodyOf Try.f6, 102, [.tmp 4], [0, 1, 4, 5, 6, 8, 9, 10, 11, 12, 13, 14, 15, 16, 17, 18, 26, 60, 76], fun  | _ => [], 0, .fresh⟩
theorem ok_laws_FnRowSum : FnOk Try.prog F_laws_FnRowSum := ⟨_, Try.func6, rfl, by kernel_rfl, by kernel_rfl, by kernel_rfl⟩
noncomputable def F_laws_FnExactSolverSays : FnI := ⟨7, bodyOf Try.f7, 56, [.tmp 4], [0, 1, 2, 4, 5, 6, 7, 8, 9, 10, 11, 14, 19, 45, 50, 55], fun  | _ => [], 0, .fresh⟩
theorem ok_laws_FnExactSolverSays : FnOk Try.prog F_laws_FnExactSolverSays := ⟨_, Try.func7, rfl, by kernel_rfl, by kernel_rfl, by kernel_rfl⟩
noncomputable def F_laws_FnSolverSays : FnI := ⟨8, bodyOf Try.f8, 109, [.tmp 4], [0, 1, 4, 5, 6, 7, 8, 9, 10, 12, 13, 14, 15, 16, 17, 18, 26, 55, 84], fun  | _ => [], 0, .fresh⟩
theorem ok_laws_FnSolverSays : FnOk Try.prog F_laws_FnSolverSays := ⟨_, Try.func8, rfl, by kernel_rfl, by kernel_rfl, by kernel_rfl⟩
noncomputable def F_laws_FnSolverGet : FnI := ⟨9, bodyOf Try.f9, 122, [.tmp 2], [0, 2, 3, 4, 5, 6, 7, 8, 9, 10, 11, 14, 54, 67, 104], fun  | _ => [], 0, .fresh⟩
theorem ok_laws_FnSolverGet : FnOk Try.prog F_laws_FnSolverGet := ⟨_, Try.func9, rfl, by kernel_rfl, by kernel_rfl, by kernel_rfl⟩
noncomputable def F_spec_BlockXor : FnI := ⟨10, bodyOf Try.f10, 19, [.tmp 4, .tmp 5], [0, 1, 4, 5, 15], fun  | _ => [], 0, .fresh⟩
theorem ok_spec_BlockXor : FnOk Try.prog F_spec_BlockXor := ⟨_, Try.func10, rfl, by kernel_rfl, by kernel_rfl, by kernel_rfl⟩
noncomputable def F_impl_BlockXor : FnI := ⟨11, bodyOf Try.f11, 19, [.tmp 4, .tmp 5], [0, 1, 4, 5, 15], fun  | _ => [], 0, .fresh⟩
theorem ok_impl_BlockXor : FnOk Try.prog F_impl_BlockXor := ⟨_, Try.func11, rfl, by kernel_rfl, by kernel_rfl, by kernel_rfl⟩
noncomputable def F_spec_DrawBlockXor : FnI := ⟨12, bodyOf Try.f12, 26, [.tmp 2, .tmp 3], [0, 2, 3, 4, 5, 12], fun  | _ => [], 0, .fresh⟩
theorem ok_spec_DrawBlockXor : FnOk Try.prog F_spec_DrawBlockXor := ⟨_, Try.func12, rfl, by kernel_rfl, by kernel_rfl, by kernel_rfl⟩
noncomputable def F_laws_szStringS : FnI := ⟨13, bodyOf Try.f13, 28, [.tmp 4], [0, 1, 4, 5, 11, 15, 26], fun | 5 => [0, 1, 5] | _ => [], 0, .fresh⟩
theorem ok_laws_szStringS : FnOk Try.prog F_laws_szStringS := ⟨_, Try.func13, rfl, by kernel_rfl, by kernel_rfl, by kernel_rfl⟩
noncomputable def F_spec_RowSum : FnI := ⟨14, bodyOf Try.f14, 48, [.tmp 4, .tmp 5], [0, 1, 4, 5, 6, 16, 20, 40], fun | 4 => [0, 1, 6] | _ => [], 0, .fresh⟩
theorem ok_spec_RowSum : FnOk Try.prog F_spec_RowSum := ⟨_, Try.func14, rfl, by kernel_rfl, by kernel_rfl, by kernel_rfl⟩
noncomputable def F_laws_toStringS : FnI := ⟨15, bodyOf Try.f15, 22, [.tmp 2], [0, 2, 3, 4, 11], fun | 3 => [0, 3, 4] | _ => [], 0, .mix [.own]⟩
theorem ok_laws_toStringS : FnOk Try.prog F_laws_toStringS := ⟨_, Try.func15, rfl, by kernel_rfl, by kernel_rfl, by kernel_rfl⟩
noncomputable def F_laws_toIntS : FnI := ⟨16, bodyOf Try.f16, 22, [.tmp 2], [0, 2, 3, 4, 11], fun | 3 => [0, 3, 4] | _ => [], 0, .mix [.own]⟩
theorem ok_laws_toIntS : FnOk Try.prog F_laws_toIntS := ⟨_, Try.func16, rfl, by kernel_rfl, by kernel_rfl, by kernel_rfl⟩
noncomputable def F_impl_RowSum : FnI := ⟨17, bodyOf Try.f17, 61, [.tmp 4, .tmp 5], [0, 1, 4, 5, 7, 8, 10, 27, 28, 29, 30, 31, 40, 47, 48, 49, 50], fun | 11 => [0, 8, 47, 48, 49] | 4 => [0, 1, 28, 29, 30] | _ => [], 0, .fresh⟩
theorem ok_impl_RowSum : FnOk Try.prog F_impl_RowSum := ⟨_, Try.func17, rfl, by kernel_rfl, by kernel_rfl, by kernel_rfl⟩
noncomputable def F_laws_eqStringS : FnI := ⟨18, bodyOf Try.f18, 26, [.tmp 4], [0, 1, 4, 5, 10, 14, 25], fun | 4 => [0, 1, 5] | _ => [], 0, .fresh⟩
theorem ok_laws_eqStringS : FnOk Try.prog F_laws_eqStringS := ⟨_, Try.func18, rfl, by kernel_rfl, by kernel_rfl, by kernel_rfl⟩
noncomputable def F_laws_eqIntS : FnI := ⟨19, bodyOf Try.f19, 26, [.tmp 4], [0, 1, 4, 5, 10, 14, 25], fun | 4 => [0, 1, 5] | _ => [], 0, .fresh⟩
theorem ok_laws_eqIntS : FnOk Try.prog F_laws_eqIntS := ⟨_, Try.func19, rfl, by kernel_rfl, by kernel_rfl, by kernel_rfl⟩
noncomputable def F_spec_DrawRowSum : FnI := ⟨20, bodyOf Try.f20, 48, [.tmp 2, .tmp 3], [0, 2, 3, 4, 5, 6, 7, 16, 32], fun | 5 => [4, 5, 6, 7] | _ => [], 0, .fresh⟩
theorem ok_spec_DrawRowSum : FnOk Try.prog F_spec_DrawRowSum := ⟨_, Try.func20, rfl, by kernel_rfl, by kernel_rfl, by kernel_rfl⟩
noncomputable def F_impl_RowXor : FnI := ⟨21, bodyOf Try.f21, 20, [.tmp 4], [0, 1, 4, 12], fun  | _ => [], 0, .mix [.own]⟩
theorem ok_impl_RowXor : FnOk Try.prog F_impl_RowXor := ⟨_, Try.func21, rfl, by kernel_rfl, by kernel_rfl, by kernel_rfl⟩
noncomputable def F_laws_szSolver : FnI := ⟨22, bodyOf Try.f22, 12, [.tmp 4], [0, 1, 2, 4, 10], fun  | _ => [], 0, .fresh⟩
theorem ok_laws_szSolver : FnOk Try.prog F_laws_szSolver := ⟨_, Try.func22, rfl, by kernel_rfl, by kernel_rfl, by kernel_rfl⟩
noncomputable def F_spec_SolverSays : FnI := ⟨23, bodyOf Try.f23, 32, [.tmp 4, .tmp 5], [0, 1, 2, 4, 5, 6, 16, 29], fun  | _ => [], 0, .fresh⟩
theorem ok_spec_SolverSays : FnOk Try.prog F_spec_SolverSays := ⟨_, Try.func23, rfl, by kernel_rfl, by kernel_rfl, by kernel_rfl⟩
noncomputable def F_laws_toSolver : FnI := ⟨24, bodyOf Try.f24, 15, [.cell 2 49], [0, 1, 2, 3], fun  | _ => [], 0, .mix [.own]⟩
theorem ok_laws_toSolver : FnOk Try.prog F_laws_toSolver := ⟨_, Try.func24, rfl, by kernel_rfl, by kernel_rfl, by kernel_rfl⟩
noncomputable def F_impl_SolverSays : FnI := ⟨25, bodyOf Try.f25, 31, [.tmp 4, .tmp 5], [0, 1, 2, 4, 5, 6, 7, 17, 29], fun  | _ => [], 0, .fresh⟩
theorem ok_impl_SolverSays : FnOk Try.prog F_impl_SolverSays := ⟨_, Try.func25, rfl, by kernel_rfl, by kernel_rfl, by kernel_rfl⟩
noncomputable def F_laws_eqSolver : FnI := ⟨26, bodyOf Try.f26, 21, [.tmp 4], [0, 1, 2, 3, 4, 9, 14, 20], fun  | _ => [], 0, .fresh⟩
theorem ok_laws_eqSolver : FnOk Try.prog F_laws_eqSolver := ⟨_, Try.func26, rfl, by kernel_rfl, by kernel_rfl, by kernel_rfl⟩
noncomputable def F_spec_DrawSolverSays : FnI := ⟨27, bodyOf Try.f27, 19, [.cell 2 49, .tmp 3], [0, 2, 3, 4, 5, 6], fun  | _ => [], 0, .alias⟩
theorem ok_spec_DrawSolverSays : FnOk Try.prog F_spec_DrawSolverSays := ⟨_, Try.func27, rfl, by kernel_rfl, by kernel_rfl, by kernel_rfl⟩
noncomputable def F_impl_RowOk : FnI := ⟨28, bodyOf Try.f28, 35, [.tmp 4], [0, 1, 4, 5, 6, 7, 8, 9, 10, 31], fun | 2 => [0, 1, 7, 8, 9] | _ => [], 0, .fresh⟩
theorem ok_impl_RowOk : FnOk Try.prog F_impl_RowOk := ⟨_, Try.func28, rfl, by kernel_rfl, by kernel_rfl, by kernel_rfl⟩
noncomputable def F_spec_DrawSolverGet : FnI := ⟨29, bodyOf Try.f29, 21, [.cell 2 49, .tmp 3], [0, 2, 3, 4, 5, 6], fun  | _ => [], 0, .alias⟩
theorem ok_spec_DrawSolverGet : FnOk Try.prog F_spec_DrawSolverGet := ⟨_, Try.func29, rfl, by kernel_rfl, by kernel_rfl, by kernel_rfl⟩
noncomputable def F_impl_SolverGet : FnI := ⟨30, bodyOf Try.f30, 14, [.tmp 4, .tmp 5], [0, 1, 2, 4, 5, 8], fun  | _ => [], 0, .fresh⟩
theorem ok_impl_SolverGet : FnOk Try.prog F_impl_SolverGet := ⟨_, Try.func30, rfl, by kernel_rfl, by kernel_rfl, by kernel_rfl⟩
noncomputable def F_spec_SolverGet : FnI := ⟨31, bodyOf Try.f31, 14, [.tmp 4, .tmp 5], [0, 1, 2, 4, 5, 8], fun  | _ => [], 0, .fresh⟩
theorem ok_spec_SolverGet : FnOk Try.prog F_spec_SolverGet := ⟨_, Try.func31, rfl, by kernel_rfl, by kernel_rfl, by kernel_rfl⟩
noncomputable def F_impl_SolverPrefix : FnI := ⟨32, bodyOf Try.f32, 8, [.tmp 2], [0, 1, 2, 5], fun  | _ => [], 0, .fresh⟩
theorem ok_impl_SolverPrefix : FnOk Try.prog F_impl_SolverPrefix := ⟨_, Try.func32, rfl, by kernel_rfl, by kernel_rfl, by kernel_rfl⟩
noncomputable def F_spec_SolverPrefix : FnI := ⟨33, bodyOf Try.f33, 8, [.tmp 2], [0, 1, 2, 5], fun  | _ => [], 0, .fresh⟩
theorem ok_spec_SolverPrefix : FnOk Try.prog F_spec_SolverPrefix := ⟨_, Try.func33, rfl, by kernel_rfl, by kernel_rfl, by kernel_rfl⟩
noncomputable def F_impl_SolverRank : FnI := ⟨34, bodyOf Try.f34, 9, [.tmp 2], [0, 1, 2, 5], fun  | _ => [], 0, .fresh⟩
theorem ok_impl_SolverRank : FnOk Try.prog F_impl_SolverRank := ⟨_, Try.func34, rfl, by kernel_rfl, by kernel_rfl, by kernel_rfl⟩
noncomputable def F_spec_SolverRank : FnI := ⟨35, bodyOf Try.f35, 9, [.tmp 2], [0, 1, 2, 5], fun  | _ => [], 0, .fresh⟩
theorem ok_spec_SolverRank : FnOk Try.prog F_spec_SolverRank := ⟨_, Try.func35, rfl, by kernel_rfl, by kernel_rfl, by kernel_rfl⟩
noncomputable def F_spec_SolverOk : FnI := ⟨36, bodyOf Try.f36, 103, [.tmp 2], [0, 1, 2, 3, 4, 5, 6, 16, 21, 68, 73, 80, 102], fun | 13 => [1, 5, 6] | 10 => [1, 5] | 4 => [1, 3] | _ => [], 0, .fresh⟩
theorem ok_spec_SolverOk : FnOk Try.prog F_spec_SolverOk := ⟨_, Try.func36, rfl, by kernel_rfl, by kernel_rfl, by kernel_rfl⟩
noncomputable def F_spec_l2Block : FnI := ⟨37, bodyOf Try.f37, 26, [.tmp 4], [0, 1, 4, 5, 6, 11], fun | 3 => [0, 1, 5, 6] | _ => [], 0, .fresh⟩
theorem ok_spec_l2Block : FnOk Try.prog F_spec_l2Block := ⟨_, Try.func37, rfl, by kernel_rfl, by kernel_rfl, by kernel_rfl⟩
noncomputable def F_impl_xor : FnI := ⟨38, bodyOf Try.f38, 26, [.tmp 4], [0, 1, 4, 5, 6, 10, 11, 12], fun | 3 => [1, 5, 10, 11] | _ => [], 0, .fresh⟩
theorem ok_impl_xor : FnOk Try.prog F_impl_xor := ⟨_, Try.func38, rfl, by kernel_rfl, by kernel_rfl, by kernel_rfl⟩
noncomputable def F_spec_l1Open : FnI := ⟨39, bodyOf Try.f39, 11, [.tmp 2], [0, 2, 5], fun  | _ => [], 0, .alias⟩
theorem ok_spec_l1Open : FnOk Try.prog F_spec_l1Open := ⟨_, Try.func39, rfl, by kernel_rfl, by kernel_rfl, by kernel_rfl⟩
noncomputable def F_spec_l1Rd_pick : FnI := ⟨40, bodyOf Try.f40, 99, [.tmp 4], [0, 1, 4, 5, 6, 24, 36], fun  | _ => [], 1, .fresh⟩
theorem ok_spec_l1Rd_pick : FnOk Try.prog F_spec_l1Rd_pick := ⟨_, Try.func40, rfl, by kernel_rfl, by kernel_rfl, by kernel_rfl⟩
noncomputable def F_spec_l15Block : FnI := ⟨41, bodyOf Try.f41, 24, [.tmp 4], [0, 1, 4, 5, 6, 10], fun | 3 => [0, 1, 5, 6] | _ => [], 1, .fresh⟩
theorem ok_spec_l15Block : FnOk Try.prog F_spec_l15Block := ⟨_, Try.func41, rfl, by kernel_rfl, by kernel_rfl, by kernel_rfl⟩
noncomputable def F_spec_RowOk : FnI := ⟨42, bodyOf Try.f42, 38, [.tmp 4], [0, 1, 4, 5, 9, 35], fun | 2 => [0, 1, 5] | _ => [], 0, .fresh⟩
theorem ok_spec_RowOk : FnOk Try.prog F_spec_RowOk := ⟨_, Try.func42, rfl, by kernel_rfl, by kernel_rfl, by kernel_rfl⟩
noncomputable def F_spec_l2Sum : FnI := ⟨43, bodyOf Try.f43, 29, [.tmp 6], [0, 1, 2, 6, 7, 8, 16], fun | 3 => [0, 1, 7, 8] | _ => [], 0, .fresh⟩
theorem ok_spec_l2Sum : FnOk Try.prog F_spec_l2Sum := ⟨_, Try.func43, rfl, by kernel_rfl, by kernel_rfl, by kernel_rfl⟩
noncomputable def F_impl_zeros : FnI := ⟨44, bodyOf Try.f44, 6, [.tmp 2], [0, 2], fun  | _ => [], 0, .fresh⟩
theorem ok_impl_zeros : FnOk Try.prog F_impl_zeros := ⟨_, Try.func44, rfl, by kernel_rfl, by kernel_rfl, by kernel_rfl⟩
noncomputable def F_spec_l15BadRow : FnI := ⟨45, bodyOf Try.f45, 28, [.tmp 4], [0, 1, 4, 5, 10, 11, 17, 22], fun  | _ => [], 1, .mix [.own]⟩
theorem ok_spec_l15BadRow : FnOk Try.prog F_spec_l15BadRow := ⟨_, Try.func45, rfl, by kernel_rfl, by kernel_rfl, by kernel_rfl⟩
noncomputable def F_impl_rowOf : FnI := ⟨46, bodyOf Try.f46, 20, [.tmp 2], [0, 2, 3, 4, 6, 7, 13], fun | 3 => [0, 3, 6] | _ => [], 0, .mix [.own]⟩
theorem ok_impl_rowOf : FnOk Try.prog F_impl_rowOf := ⟨_, Try.func46, rfl, by kernel_rfl, by kernel_rfl, by kernel_rfl⟩
noncomputable def F_impl_mask : FnI := ⟨47, bodyOf Try.f47, 18, [.tmp 2], [0, 2, 3, 5, 6, 7, 8, 9], fun | 3 => [3, 6, 7, 8] | _ => [], 0, .fresh⟩
theorem ok_impl_mask : FnOk Try.prog F_impl_mask := ⟨_, Try.func47, rfl, by kernel_rfl, by kernel_rfl, by kernel_rfl⟩
noncomputable def F_laws_szEqS : FnI := ⟨48, bodyOf Try.f48, 27, [.tmp 4], [0, 1, 4, 5, 11, 15, 25], fun | 5 => [0, 1, 5] | _ => [], 0, .fresh⟩
theorem ok_laws_szEqS : FnOk Try.prog F_laws_szEqS := ⟨_, Try.func48, rfl, by kernel_rfl, by kernel_rfl, by kernel_rfl⟩
noncomputable def F_spec_l3Less : FnI := ⟨49, bodyOf Try.f49, 44, [.cell 4 74], [0, 1, 2, 3, 4, 5, 10, 23], fun | 2 => [2, 3, 4, 5] | _ => [], 0, .alias⟩
theorem ok_spec_l3Less : FnOk Try.prog F_spec_l3Less := ⟨_, Try.func49, rfl, by kernel_rfl, by kernel_rfl, by kernel_rfl⟩
noncomputable def F_spec_l3Zero : FnI := ⟨50, bodyOf Try.f50, 7, [.tmp 2], [0, 2], fun  | _ => [], 0, .fresh⟩
theorem ok_spec_l3Zero : FnOk Try.prog F_spec_l3Zero := ⟨_, Try.func50, rfl, by kernel_rfl, by kernel_rfl, by kernel_rfl⟩
noncomputable def F_laws_toEqS : FnI := ⟨51, bodyOf Try.f51, 23, [.tmp 2], [0, 2, 3, 4, 11], fun | 3 => [0, 3, 4] | _ => [], 0, .mix [.own]⟩
theorem ok_laws_toEqS : FnOk Try.prog F_laws_toEqS := ⟨_, Try.func51, rfl, by kernel_rfl, by kernel_rfl, by kernel_rfl⟩
noncomputable def F_impl_SolverOk : FnI := ⟨52, bodyOf Try.f52, 89, [.tmp 2], [0, 1, 2, 3, 4, 5, 7, 17, 19, 20, 21, 22, 65, 75, 76, 77, 78, 87], fun | 12 => [3, 75, 76, 77] | 5 => [1, 3, 19, 20, 21] | _ => [], 0, .fresh⟩
theorem ok_impl_SolverOk : FnOk Try.prog F_impl_SolverOk := ⟨_, Try.func52, rfl, by kernel_rfl, by kernel_rfl, by kernel_rfl⟩
noncomputable def F_impl_Solver_reduce : FnI := ⟨53, bodyOf Try.f53, 37, [.tmp 6, .tmp 7], [0, 1, 2, 3, 6, 7, 9, 11, 12, 13, 14, 24], fun | 2 => [1, 2, 11, 12, 13] | _ => [], 0, .fresh⟩
theorem ok_impl_Solver_reduce : FnOk Try.prog F_impl_Solver_reduce := ⟨_, Try.func53, rfl, by kernel_rfl, by kernel_rfl, by kernel_rfl⟩
noncomputable def F_laws_eqEqS : FnI := ⟨54, bodyOf Try.f54, 27, [.tmp 4], [0, 1, 4, 5, 10, 14, 26], fun | 4 => [0, 1, 5] | _ => [], 0, .fresh⟩
theorem ok_laws_eqEqS : FnOk Try.prog F_laws_eqEqS := ⟨_, Try.func54, rfl, by kernel_rfl, by kernel_rfl, by kernel_rfl⟩
noncomputable def F_spec_l15AnySolver : FnI := ⟨55, bodyOf Try.f55, 20, [.cell 2 49, .tmp 3], [0, 2, 3, 4, 5, 13], fun  | _ => [], 1, .alias⟩
theorem ok_spec_l15AnySolver : FnOk Try.prog F_spec_l15AnySolver := ⟨_, Try.func55, rfl, by kernel_rfl, by kernel_rfl, by kernel_rfl⟩
noncomputable def F_impl_within : FnI := ⟨56, bodyOf Try.f56, 15, [.tmp 6], [0, 1, 2, 6], fun  | _ => [], 0, .fresh⟩
theorem ok_impl_within : FnOk Try.prog F_impl_within := ⟨_, Try.func56, rfl, by kernel_rfl, by kernel_rfl, by kernel_rfl⟩
noncomputable def F_impl_Solver_get : FnI := ⟨57, bodyOf Try.f57, 30, [.tmp 4, .tmp 5], [0, 1, 2, 4, 5, 7, 9, 10, 11, 12, 26], fun | 2 => [1, 9, 10, 11] | _ => [], 0, .fresh⟩
theorem ok_impl_Solver_get : FnOk Try.prog F_impl_Solver_get := ⟨_, Try.func57, rfl, by kernel_rfl, by kernel_rfl, by kernel_rfl⟩
noncomputable def F_spec_l3Get : FnI := ⟨58, bodyOf Try.f58, 40, [.tmp 4, .tmp 5], [0, 1, 2, 4, 5, 6, 11, 33], fun | 2 => [1, 2, 6] | _ => [], 0, .fresh⟩
theorem ok_spec_l3Get : FnOk Try.prog F_spec_l3Get := ⟨_, Try.func58, rfl, by kernel_rfl, by kernel_rfl, by kernel_rfl⟩
noncomputable def F_impl_Solver_prefix : FnI := ⟨59, bodyOf Try.f59, 21, [.tmp 2], [0, 1, 2, 3, 5, 9, 17], fun | 2 => [1, 3] | _ => [], 0, .fresh⟩
theorem ok_impl_Solver_prefix : FnOk Try.prog F_impl_Solver_prefix := ⟨_, Try.func59, rfl, by kernel_rfl, by kernel_rfl, by kernel_rfl⟩
noncomputable def F_spec_l3Prefix : FnI := ⟨60, bodyOf Try.f60, 17, [.tmp 2], [0, 1, 2, 3, 5, 13], fun | 2 => [1, 3] | _ => [], 0, .fresh⟩
theorem ok_spec_l3Prefix : FnOk Try.prog F_spec_l3Prefix := ⟨_, Try.func60, rfl, by kernel_rfl, by kernel_rfl, by kernel_rfl⟩
noncomputable def F_spec_l1In : FnI := ⟨61, bodyOf Try.f61, 15, [.tmp 6], [0, 1, 2, 6], fun  | _ => [], 0, .fresh⟩
theorem ok_spec_l1In : FnOk Try.prog F_spec_l1In := ⟨_, Try.func61, rfl, by kernel_rfl, by kernel_rfl, by kernel_rfl⟩
noncomputable def F_spec_l3Has : FnI := ⟨62, bodyOf Try.f62, 18, [.tmp 4], [0, 1, 4, 5, 9, 17], fun | 2 => [0, 1, 5] | _ => [], 0, .fresh⟩
theorem ok_spec_l3Has : FnOk Try.prog F_spec_l3Has := ⟨_, Try.func62, rfl, by kernel_rfl, by kernel_rfl, by kernel_rfl⟩
noncomputable def F_spec_l1Many : FnI := ⟨63, bodyOf Try.f63, 20, [.tmp 4], [0, 1, 4, 5, 7, 10], fun | 2 => [0, 1, 5] | _ => [], 0, .fresh⟩
theorem ok_spec_l1Many : FnOk Try.prog F_spec_l1Many := ⟨_, Try.func63, rfl, by kernel_rfl, by kernel_rfl, by kernel_rfl⟩
noncomputable def F_spec_l15Row : FnI := ⟨64, bodyOf Try.f64, 21, [.tmp 4], [0, 1, 4, 5, 6, 10, 15], fun | 3 => [0, 1, 5, 6] | _ => [], 1, .mix [.own]⟩
theorem ok_spec_l15Row : FnOk Try.prog F_spec_l15Row := ⟨_, Try.func64, rfl, by kernel_rfl, by kernel_rfl, by kernel_rfl⟩
noncomputable def F_laws_szEq : FnI := ⟨65, bodyOf Try.f65, 19, [.tmp 4], [0, 1, 2, 4, 10, 17], fun  | _ => [], 0, .fresh⟩
theorem ok_laws_szEq : FnOk Try.prog F_laws_szEq := ⟨_, Try.func65, rfl, by kernel_rfl, by kernel_rfl, by kernel_rfl⟩
noncomputable def F_spec_l2Xor : FnI := ⟨66, bodyOf Try.f66, 80, [.tmp 4], [0, 1, 4, 5, 6, 7, 18, 23, 54], fun | 4 => [0, 1, 5, 6, 7] | _ => [], 0, .mix [.own]⟩
theorem ok_spec_l2Xor : FnOk Try.prog F_spec_l2Xor := ⟨_, Try.func66, rfl, by kernel_rfl, by kernel_rfl, by kernel_rfl⟩
noncomputable def F_laws_toEq : FnI := ⟨67, bodyOf Try.f67, 12, [.cell 2 74], [0, 1, 2, 3], fun  | _ => [], 0, .mix [.new]⟩
theorem ok_laws_toEq : FnOk Try.prog F_laws_toEq := ⟨_, Try.func67, rfl, by kernel_rfl, by kernel_rfl, by kernel_rfl⟩
noncomputable def F_laws_eqEq : FnI := ⟨68, bodyOf Try.f68, 16, [.tmp 4], [0, 1, 2, 3, 4, 10, 15], fun  | _ => [], 0, .fresh⟩
theorem ok_laws_eqEq : FnOk Try.prog F_laws_eqEq := ⟨_, Try.func68, rfl, by kernel_rfl, by kernel_rfl, by kernel_rfl⟩
noncomputable def F_spec_l15Truth : FnI := ⟨69, bodyOf Try.f69, 24, [.tmp 2], [0, 2, 3, 4, 5, 14], fun | 4 => [0, 3, 4, 5] | _ => [], 1, .mix [.own]⟩
theorem ok_spec_l15Truth : FnOk Try.prog F_spec_l15Truth := ⟨_, Try.func69, rfl, by kernel_rfl, by kernel_rfl, by kernel_rfl⟩
noncomputable def F_spec_l15Solver : FnI := ⟨70, bodyOf Try.f70, 39, [.cell 4 49], [0, 1, 4, 5, 6, 7, 18], fun | 3 => [0, 1, 4, 5, 6] | _ => [], 1, .alias⟩
theorem ok_spec_l15Solver : FnOk Try.prog F_spec_l15Solver := ⟨_, Try.func70, rfl, by kernel_rfl, by kernel_rfl, by kernel_rfl⟩
noncomputable def F_spec_l15SpoilSolver : FnI := ⟨71, bodyOf Try.f71, 86, [.cell 4 49], [0, 1, 3, 4, 5, 9, 16, 24, 35, 40, 50, 55, 69, 74], fun  | _ => [], 1, .alias⟩
theorem ok_spec_l15SpoilSolver : FnOk Try.prog F_spec_l15SpoilSolver := ⟨_, Try.func71, rfl, by kernel_rfl, by kernel_rfl, by kernel_rfl⟩
noncomputable def F_laws_szIntS : FnI := ⟨72, bodyOf Try.f72, 12, [.tmp 4], [0, 1, 4, 10], fun  | _ => [], 0, .fresh⟩
theorem ok_laws_szIntS : FnOk Try.prog F_laws_szIntS := ⟨_, Try.func72, rfl, by kernel_rfl, by kernel_rfl, by kernel_rfl⟩
noncomputable def F_spec_SolverNew : FnI := ⟨73, bodyOf Try.f73, 17, [.cell 4 49], [0, 1, 4, 12], fun  | _ => [], 0, .alias⟩
theorem ok_spec_SolverNew : FnOk Try.prog F_spec_SolverNew := ⟨_, Try.func73, rfl, by kernel_rfl, by kernel_rfl, by kernel_rfl⟩
noncomputable def F_spec_l3Add : FnI := ⟨74, bodyOf Try.f74, 104, [.cell 6 49, .tmp 7], [0, 1, 2, 3, 6, 7, 8, 9, 10, 11, 12, 13, 26, 32, 44, 58, 82, 96], fun | 10 => [6, 8, 9, 10, 11, 12] | _ => [], 0, .alias⟩
theorem ok_spec_l3Add : FnOk Try.prog F_spec_l3Add := ⟨_, Try.func74, rfl, by kernel_rfl, by kernel_rfl, by kernel_rfl⟩
noncomputable def F_spec_l3Copy : FnI := ⟨75, bodyOf Try.f75, 38, [.cell 2 49], [0, 1, 2, 3, 4, 14], fun | 3 => [1, 2, 3, 4] | _ => [], 0, .mix [.own]⟩
theorem ok_spec_l3Copy : FnOk Try.prog F_spec_l3Copy := ⟨_, Try.func75, rfl, by kernel_rfl, by kernel_rfl, by kernel_rfl⟩

end Go.Proofs.Ytbgheffgkncpgaa.V
