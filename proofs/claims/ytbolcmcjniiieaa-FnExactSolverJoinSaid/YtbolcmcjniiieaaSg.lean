/- Tables of types, and where functions lie. Conditions: those that each theorem states. -/
import Derived.Test.YtbolcmcjniiieaaVxD
import Derived.Test.YtbolcmcjniiieaaProg
set_option linter.unusedVariables false
set_option linter.unusedSimpArgs false
namespace Go.Proofs.Ytbolcmcjniiieaa.V
open Go Vx Go.Proofs
noncomputable def TIs : List (TypeId × TI) := [(2, ⟨.int .i64, 1, 8, [.int .i64]⟩), (3, ⟨.int .i64, 1, 8, [.int .i64]⟩), (4, ⟨.bool, 1, 1, [.bool]⟩), (5, ⟨.int .u8, 1, 1, [.int .u8]⟩), (9, ⟨.str, 1, 16, [.str]⟩), (12, ⟨.int .u64, 1, 8, [.int .u64]⟩), (13, ⟨.struct [(0, 1), (1, 1)], 2, 24, [.str, .int .u64]⟩), (21, ⟨.int .i32, 1, 4, [.int .i32]⟩), (22, ⟨.slice 5, 1, 24, [.nil (.ints .u8)]⟩), (23, ⟨.slice 38, 1, 24, [.nil .eqs]⟩), (24, ⟨.struct [(0, 1), (1, 1), (2, 1)], 3, 40, [.int .i64, .int .i64, .nil .eqs]⟩), (25, ⟨.struct [(0, 1), (1, 1), (2, 1)], 3, 40, [.int .i64, .int .i64, .nil .eqs]⟩), (26, ⟨.slice 3, 1, 24, [.nil (.ints .i64)]⟩), (37, ⟨.struct [(0, 1), (1, 1)], 2, 40, [.nil (.ints .i64), .str]⟩), (38, ⟨.struct [(0, 1), (1, 1)], 2, 40, [.nil (.ints .i64), .str]⟩), (42, ⟨.slice 93, 1, 24, [.nil .eqs]⟩), (43, ⟨.struct [(0, 1), (1, 1), (2, 1)], 3, 40, [.int .i64, .int .i64, .nil .eqs]⟩), (44, ⟨.struct [(0, 1), (1, 1), (2, 1)], 3, 40, [.int .i64, .int .i64, .nil .eqs]⟩), (59, ⟨.slice 9, 1, 24, [.nil .strs]⟩), (73, ⟨.int .u32, 1, 4, [.int .u32]⟩), (83, ⟨.struct [(0, 1), (1, 1)], 2, 32, [.nil (.ints .u8), .int .i64]⟩), (84, ⟨.struct [(0, 1), (1, 1)], 2, 32, [.nil (.ints .u8), .int .i64]⟩), (93, ⟨.struct [(0, 1), (1, 1)], 2, 40, [.nil (.ints .i64), .str]⟩)]
noncomputable def EKs : EK := ⟨[(3, (.ints .i64)), (5, (.ints .u8)), (9, .strs), (38, .eqs), (73, (.ints .u32))], [], [], []⟩
theorem tabs (Φ : FuncId → List DA → Option Sp) (dp : Bool := false) : TabOk Try.prog ⟨TIs, EKs, Φ, dp⟩ := tab_ok (by kernel_rfl)
theorem snd {F : FnI} (hf : FnOk Try.prog F) (l : List (FuncId × (List DA → Option Sp))) (hl : Sound Try.prog EKs (tabF l)) {S : List DA → Option Sp} (h : ∀ args sp, S args = some sp → sp.pre = true → sp.mode = F.mode ∧ ∃ n, runF ⟨TIs, EKs, tabF l, false⟩ F n args = some (sp.res, sp.outs)) : Sound1 Try.prog EKs F.f S := sound1 (cx := ⟨TIs, EKs, tabF l, false⟩) (tabs _) (by kernel_rfl) hl hf h
theorem mix : Try.prog.follows .mixedOrders = true := by kernel_rfl
theorem sndD {F : FnI} (hf : FnOk Try.prog F) (l : List (FuncId × (List DA → Option Sp))) (hl : Sound Try.prog EKs (tabF l)) {S : List DA → Option Sp} (h : ∀ args sp, S args = some sp → sp.pre = true → sp.mode = F.mode ∧ ∃ n, runF ⟨TIs, EKs, tabF l, true⟩ F n args = some (sp.res, sp.outs)) : Sound1 Try.prog EKs F.f S := sound1 (cx := ⟨TIs, EKs, tabF l, true⟩) (tabs _ true) (by kernel_rfl) hl hf h
noncomputable def cxD (l : List (FuncId × (List DA → Option Sp))) : Cx := ⟨TIs, EKs, tabF l, true⟩
abbrev EsD (l : List (List Int × ByteArray)) : DA := .c (.row (.deqs l))
abbrev SoD (c z : Int) (es : List (List Int × ByteArray)) : DA := .agg [.sc (.int .i64 c), .sc (.int .i64 z), .row (.deqs es)]
noncomputable def cxOf (l : List (FuncId × (List DA → Option Sp))) : Cx := ⟨TIs, EKs, tabF l, false⟩
noncomputable def F_laws_FnSolverTurn : FnI := ⟨3, bodyOf Try.f3, 140, [.tmp 4], [0, 1, 4, 5, 6, 7, 8, 9, 10, 11, 12, 13, 14, 15, 16, 17, 18, 19, 20, 21, 29, 66, 79, 93, 101, 125], fun | 16 => [5, 6, 7, 8, 12, 14, 15] | 10 => [1, 5, 6, 7, 8, 12, 13] | _ => [], 0, .fresh⟩
theorem ok_laws_FnSolverTurn : FnOk Try.prog F_laws_FnSolverTurn := ⟨_, Try.func3, rfl, by kernel_rfl, by kernel_rfl, by kernel_rfl⟩
noncomputable def F_laws_FnSolverKnown : FnI := ⟨4, bodyOf Try.f4, 102, [.tmp 2], [0, 2, 3, 4, 5, 6, 7, 8, 9, 12, 19, 22, 43, 49, 97], fun | 12 => [3, 4, 5] | _ => [], 0, .fresh⟩
theorem ok_laws_FnSolverKnown : FnOk Try.prog F_laws_FnSolverKnown := ⟨_, Try.func4, rfl, by kernel_rfl, by kernel_rfl, by kernel_rfl⟩
noncomputable def F_laws_FnSolverAdd : FnI := ⟨5, bodyOf Try.f5, 155, [.tmp 2], [0, 2, 3, 4, 5, 6, 7, 8, 9, 10, 11, 12, 13, 14, 15, 16, 17, 20, 53, 104, 109, 134, 138], fun | 13 => [3, 6, 7, 14] | _ => [], 0, .fresh⟩
theorem ok_laws_FnSolverAdd : FnOk Try.prog F_laws_FnSolverAdd := ⟨_, Try.func5, rfl, by kernel_rfl, by kernel_rfl, by kernel_rfl⟩
noncomputable def F_laws_FnExactSolverAdd : FnI := ⟨6, bodyOf Try.f6, 125, [.tmp 6], [0, 1, 2, 3, 6, 7, 8, 9, 10, 11, 12, 13, 14, 15, 16, 17, 18, 21, 24, 29, 58, 63, 68, 87, 95, 98, 116, 121, 124], fun  | _ => [], 0, .fresh⟩
theorem ok_laws_FnExactSolverAdd : FnOk Try.prog F_laws_FnExactSolverAdd := ⟨_, Try.func6, rfl, by kernel_rfl, by kernel_rfl, by kernel_rfl⟩
noncomputable def F_laws_FnSolverJoin : FnI := ⟨7, bodyOf Try.f7, 102, [.tmp 2], [0, 2, 3, 4, 5, 6, 7, 8, 9, 10, 11, 12, 13, 16, 53, 55, 63, 88], fun | 12 => [3, 4, 5, 9, 11] | _ => [], 0, .fresh⟩
theorem ok_laws_FnSolverJoin : FnOk Try.prog F_laws_FnSolverJoin := ⟨_, Try.func7, rfl, by kernel_rfl, by kernel_rfl, by kernel_rfl⟩
noncomputable def F_laws_FnExactSolverJoin : FnI := ⟨8, bodyOf Try.f8, 119, [.tmp 4], [0, 1, 2, 3, 4, 5, 6, 7, 8, 9, 10, 11, 12, 13, 14, 15, 16, 21, 26, 53, 58, 63, 82, 90, 93, 110, 115, 118], fun  | _ => [], 0, .fresh⟩
theorem ok_laws_FnExactSolverJoin : FnOk Try.prog F_laws_FnExactSolverJoin := ⟨_, Try.func8, rfl, by kernel_rfl, by kernel_rfl, by kernel_rfl⟩
noncomputable def F_spec_DrawSolverAdd : FnI := ⟨9, bodyOf Try.f9, 59, [.cell 2 25, .tmp 3, .tmp 4], [0, 2, 3, 4, 5, 6, 7, 8, 9, 25, 39, 40, 48], fun  | _ => [], 0, .alias⟩
theorem ok_spec_DrawSolverAdd : FnOk Try.prog F_spec_DrawSolverAdd := ⟨_, Try.func9, rfl, by kernel_rfl, by kernel_rfl, by kernel_rfl⟩
noncomputable def F_impl_SolverAdd : FnI := ⟨10, bodyOf Try.f10, 18, [.cell 6 25, .tmp 7], [0, 1, 2, 3, 6, 7, 10], fun  | _ => [], 0, .mix [.own]⟩
theorem ok_impl_SolverAdd : FnOk Try.prog F_impl_SolverAdd := ⟨_, Try.func10, rfl, by kernel_rfl, by kernel_rfl, by kernel_rfl⟩
noncomputable def F_spec_SolverAdd : FnI := ⟨11, bodyOf Try.f11, 32, [.cell 6 25, .tmp 7], [0, 1, 2, 3, 6, 7, 10, 23], fun  | _ => [], 0, .alias⟩
theorem ok_spec_SolverAdd : FnOk Try.prog F_spec_SolverAdd := ⟨_, Try.func11, rfl, by kernel_rfl, by kernel_rfl, by kernel_rfl⟩
noncomputable def F_laws_whSolver : FnI := ⟨12, bodyOf Try.f12, 63, [.tmp 4], [0, 1, 2, 3, 4, 5, 26, 31, 62], fun | 4 => [2, 3, 5] | _ => [], 0, .fresh⟩
theorem ok_laws_whSolver : FnOk Try.prog F_laws_whSolver := ⟨_, Try.func12, rfl, by kernel_rfl, by kernel_rfl, by kernel_rfl⟩
noncomputable def F_spec_DrawSolverOk : FnI := ⟨13, bodyOf Try.f13, 18, [.cell 2 25], [0, 2, 3, 4, 13], fun  | _ => [], 0, .alias⟩
theorem ok_spec_DrawSolverOk : FnOk Try.prog F_spec_DrawSolverOk := ⟨_, Try.func13, rfl, by kernel_rfl, by kernel_rfl, by kernel_rfl⟩
noncomputable def F_impl_SolverOk : FnI := ⟨14, bodyOf Try.f14, 89, [.tmp 2], [0, 1, 2, 3, 4, 5, 7, 17, 19, 20, 21, 22, 65, 75, 76, 77, 78, 87], fun | 12 => [3, 75, 76, 77] | 5 => [1, 3, 19, 20, 21] | _ => [], 0, .fresh⟩
theorem ok_impl_SolverOk : FnOk Try.prog F_impl_SolverOk := ⟨_, Try.func14, rfl, by kernel_rfl, by kernel_rfl, by kernel_rfl⟩
noncomputable def F_spec_SolverOk : FnI := ⟨15, bodyOf Try.f15, 103, [.tmp 2], [0, 1, 2, 3, 4, 5, 6, 16, 21, 68, 73, 80, 102], fun | 13 => [1, 5, 6] | 10 => [1, 5] | 4 => [1, 3] | _ => [], 0, .fresh⟩
theorem ok_spec_SolverOk : FnOk Try.prog F_spec_SolverOk := ⟨_, Try.func15, rfl, by kernel_rfl, by kernel_rfl, by kernel_rfl⟩
noncomputable def F_impl_SolverRank : FnI := ⟨16, bodyOf Try.f16, 9, [.tmp 2], [0, 1, 2, 5], fun  | _ => [], 0, .fresh⟩
theorem ok_impl_SolverRank : FnOk Try.prog F_impl_SolverRank := ⟨_, Try.func16, rfl, by kernel_rfl, by kernel_rfl, by kernel_rfl⟩
noncomputable def F_impl_SolverPrefix : FnI := ⟨17, bodyOf Try.f17, 8, [.tmp 2], [0, 1, 2, 5], fun  | _ => [], 0, .fresh⟩
theorem ok_impl_SolverPrefix : FnOk Try.prog F_impl_SolverPrefix := ⟨_, Try.func17, rfl, by kernel_rfl, by kernel_rfl, by kernel_rfl⟩
noncomputable def F_impl_SolverNew : FnI := ⟨18, bodyOf Try.f18, 18, [.cell 4 25], [0, 1, 4, 12], fun  | _ => [], 0, .fresh⟩
theorem ok_impl_SolverNew : FnOk Try.prog F_impl_SolverNew := ⟨_, Try.func18, rfl, by kernel_rfl, by kernel_rfl, by kernel_rfl⟩
noncomputable def F_spec_SolverNew : FnI := ⟨19, bodyOf Try.f19, 17, [.cell 4 25], [0, 1, 4, 12], fun  | _ => [], 0, .fresh⟩
theorem ok_spec_SolverNew : FnOk Try.prog F_spec_SolverNew := ⟨_, Try.func19, rfl, by kernel_rfl, by kernel_rfl, by kernel_rfl⟩
noncomputable def F_impl_SolverSays : FnI := ⟨20, bodyOf Try.f20, 31, [.tmp 4, .tmp 5], [0, 1, 2, 4, 5, 6, 7, 17, 29], fun  | _ => [], 0, .fresh⟩
theorem ok_impl_SolverSays : FnOk Try.prog F_impl_SolverSays := ⟨_, Try.func20, rfl, by kernel_rfl, by kernel_rfl, by kernel_rfl⟩
noncomputable def F_laws_szSolver : FnI := ⟨21, bodyOf Try.f21, 12, [.tmp 4], [0, 1, 2, 4, 10], fun  | _ => [], 0, .fresh⟩
theorem ok_laws_szSolver : FnOk Try.prog F_laws_szSolver := ⟨_, Try.func21, rfl, by kernel_rfl, by kernel_rfl, by kernel_rfl⟩
noncomputable def F_laws_toSolver : FnI := ⟨22, bodyOf Try.f22, 15, [.cell 2 25], [0, 1, 2, 3], fun  | _ => [], 0, .mix [.own]⟩
theorem ok_laws_toSolver : FnOk Try.prog F_laws_toSolver := ⟨_, Try.func22, rfl, by kernel_rfl, by kernel_rfl, by kernel_rfl⟩
noncomputable def F_laws_toIntS : FnI := ⟨23, bodyOf Try.f23, 22, [.tmp 2], [0, 2, 3, 4, 11], fun | 3 => [0, 3, 4] | _ => [], 0, .mix [.own]⟩
theorem ok_laws_toIntS : FnOk Try.prog F_laws_toIntS := ⟨_, Try.func23, rfl, by kernel_rfl, by kernel_rfl, by kernel_rfl⟩
noncomputable def F_laws_eqSolver : FnI := ⟨24, bodyOf Try.f24, 21, [.tmp 4], [0, 1, 2, 3, 4, 9, 14, 20], fun  | _ => [], 0, .fresh⟩
theorem ok_laws_eqSolver : FnOk Try.prog F_laws_eqSolver := ⟨_, Try.func24, rfl, by kernel_rfl, by kernel_rfl, by kernel_rfl⟩
noncomputable def F_laws_eqIntS : FnI := ⟨25, bodyOf Try.f25, 26, [.tmp 4], [0, 1, 4, 5, 10, 14, 25], fun | 4 => [0, 1, 5] | _ => [], 0, .fresh⟩
theorem ok_laws_eqIntS : FnOk Try.prog F_laws_eqIntS := ⟨_, Try.func25, rfl, by kernel_rfl, by kernel_rfl, by kernel_rfl⟩
noncomputable def F_laws_markSolver : FnI := ⟨26, bodyOf Try.f26, 10, [.tmp 4], [0, 1, 2, 4], fun  | _ => [], 0, .write⟩
theorem ok_laws_markSolver : FnOk Try.prog F_laws_markSolver := ⟨_, Try.func26, rfl, by kernel_rfl, by kernel_rfl, by kernel_rfl⟩
noncomputable def F_laws_markIntS : FnI := ⟨27, bodyOf Try.f27, 19, [.tmp 4], [0, 1, 4, 5, 9], fun | 2 => [0, 1, 5] | _ => [], 0, .write⟩
theorem ok_laws_markIntS : FnOk Try.prog F_laws_markIntS := ⟨_, Try.func27, rfl, by kernel_rfl, by kernel_rfl, by kernel_rfl⟩
noncomputable def F_laws_heldSolver : FnI := ⟨28, bodyOf Try.f28, 12, [.tmp 4], [0, 1, 2, 4, 10], fun  | _ => [], 0, .fresh⟩
theorem ok_laws_heldSolver : FnOk Try.prog F_laws_heldSolver := ⟨_, Try.func28, rfl, by kernel_rfl, by kernel_rfl, by kernel_rfl⟩
noncomputable def F_spec_DrawSolverJoin : FnI := ⟨29, bodyOf Try.f29, 38, [.cell 2 25, .cell 3 25], [0, 2, 3, 4, 5, 6, 16, 31], fun  | _ => [], 0, .alias⟩
theorem ok_spec_DrawSolverJoin : FnOk Try.prog F_spec_DrawSolverJoin := ⟨_, Try.func29, rfl, by kernel_rfl, by kernel_rfl, by kernel_rfl⟩
noncomputable def F_impl_SolverJoin : FnI := ⟨30, bodyOf Try.f30, 58, [.cell 4 25, .tmp 5], [0, 1, 2, 3, 4, 5, 6, 8, 9, 10, 32, 37, 38, 39, 40, 53], fun | 5 => [4, 6, 37, 38, 39] | _ => [], 0, .mix [.own]⟩
theorem ok_impl_SolverJoin : FnOk Try.prog F_impl_SolverJoin := ⟨_, Try.func30, rfl, by kernel_rfl, by kernel_rfl, by kernel_rfl⟩
noncomputable def F_spec_SolverJoin : FnI := ⟨31, bodyOf Try.f31, 64, [.cell 4 25, .tmp 5], [0, 1, 2, 3, 4, 5, 6, 7, 8, 9, 31, 39, 60], fun | 5 => [3, 4, 6, 7] | _ => [], 0, .alias⟩
theorem ok_spec_SolverJoin : FnOk Try.prog F_spec_SolverJoin := ⟨_, Try.func31, rfl, by kernel_rfl, by kernel_rfl, by kernel_rfl⟩
noncomputable def F_spec_l1Open : FnI := ⟨32, bodyOf Try.f32, 11, [.tmp 2], [0, 2, 5], fun  | _ => [], 0, .alias⟩
theorem ok_spec_l1Open : FnOk Try.prog F_spec_l1Open := ⟨_, Try.func32, rfl, by kernel_rfl, by kernel_rfl, by kernel_rfl⟩
noncomputable def F_spec_l15AnySolver : FnI := ⟨33, bodyOf Try.f33, 20, [.cell 2 25, .tmp 3], [0, 2, 3, 4, 5, 13], fun  | _ => [], 1, .mix [.any,.own]⟩
theorem ok_spec_l15AnySolver : FnOk Try.prog F_spec_l15AnySolver := ⟨_, Try.func33, rfl, by kernel_rfl, by kernel_rfl, by kernel_rfl⟩
noncomputable def F_spec_l15BadRow : FnI := ⟨34, bodyOf Try.f34, 28, [.tmp 4], [0, 1, 4, 5, 10, 11, 17, 22], fun  | _ => [], 1, .mix [.own]⟩
theorem ok_spec_l15BadRow : FnOk Try.prog F_spec_l15BadRow := ⟨_, Try.func34, rfl, by kernel_rfl, by kernel_rfl, by kernel_rfl⟩
noncomputable def F_spec_RowOk : FnI := ⟨35, bodyOf Try.f35, 38, [.tmp 4], [0, 1, 4, 5, 9, 35], fun | 2 => [0, 1, 5] | _ => [], 0, .fresh⟩
theorem ok_spec_RowOk : FnOk Try.prog F_spec_RowOk := ⟨_, Try.func35, rfl, by kernel_rfl, by kernel_rfl, by kernel_rfl⟩
noncomputable def F_spec_l2Sum : FnI := ⟨36, bodyOf Try.f36, 29, [.tmp 6], [0, 1, 2, 6, 7, 8, 16], fun | 3 => [0, 1, 7, 8] | _ => [], 0, .fresh⟩
theorem ok_spec_l2Sum : FnOk Try.prog F_spec_l2Sum := ⟨_, Try.func36, rfl, by kernel_rfl, by kernel_rfl, by kernel_rfl⟩
noncomputable def F_spec_l1Rd_pick : FnI := ⟨37, bodyOf Try.f37, 99, [.tmp 4], [0, 1, 4, 5, 6, 24, 36], fun  | _ => [], 1, .fresh⟩
theorem ok_spec_l1Rd_pick : FnOk Try.prog F_spec_l1Rd_pick := ⟨_, Try.func37, rfl, by kernel_rfl, by kernel_rfl, by kernel_rfl⟩
noncomputable def F_spec_l15Block : FnI := ⟨38, bodyOf Try.f38, 24, [.tmp 4], [0, 1, 4, 5, 6, 10], fun | 3 => [0, 1, 5, 6] | _ => [], 1, .fresh⟩
theorem ok_spec_l15Block : FnOk Try.prog F_spec_l15Block := ⟨_, Try.func38, rfl, by kernel_rfl, by kernel_rfl, by kernel_rfl⟩
noncomputable def F_impl_Solver_add : FnI := ⟨39, bodyOf Try.f39, 125, [.cell 6 25, .tmp 7], [0, 1, 2, 3, 6, 7, 8, 9, 10, 11, 12, 14, 15, 27, 39, 44, 60, 61, 62, 63, 76, 111], fun | 12 => [6, 8, 9, 10, 11, 12, 60, 61, 62] | _ => [], 0, .mix [.own]⟩
theorem ok_impl_Solver_add : FnOk Try.prog F_impl_Solver_add := ⟨_, Try.func39, rfl, by kernel_rfl, by kernel_rfl, by kernel_rfl⟩
noncomputable def F_spec_l3Copy : FnI := ⟨40, bodyOf Try.f40, 38, [.cell 2 25], [0, 1, 2, 3, 4, 14], fun | 3 => [1, 2, 3, 4] | _ => [], 0, .mix [.own]⟩
theorem ok_spec_l3Copy : FnOk Try.prog F_spec_l3Copy := ⟨_, Try.func40, rfl, by kernel_rfl, by kernel_rfl, by kernel_rfl⟩
noncomputable def F_spec_l3Add : FnI := ⟨41, bodyOf Try.f41, 104, [.cell 6 25, .tmp 7], [0, 1, 2, 3, 6, 7, 8, 9, 10, 11, 12, 13, 26, 32, 44, 58, 82, 96], fun | 10 => [6, 8, 9, 10, 11, 12] | _ => [], 0, .alias⟩
theorem ok_spec_l3Add : FnOk Try.prog F_spec_l3Add := ⟨_, Try.func41, rfl, by kernel_rfl, by kernel_rfl, by kernel_rfl⟩
noncomputable def F_laws_whInts : FnI := ⟨42, bodyOf Try.f42, 26, [.tmp 4], [0, 1, 4, 5, 10, 14, 25], fun | 4 => [0, 1, 5] | _ => [], 0, .fresh⟩
theorem ok_laws_whInts : FnOk Try.prog F_laws_whInts := ⟨_, Try.func42, rfl, by kernel_rfl, by kernel_rfl, by kernel_rfl⟩
noncomputable def F_spec_l15Solver : FnI := ⟨43, bodyOf Try.f43, 39, [.cell 4 25], [0, 1, 4, 5, 6, 7, 18], fun | 3 => [0, 1, 4, 5, 6] | _ => [], 1, .fresh⟩
theorem ok_spec_l15Solver : FnOk Try.prog F_spec_l15Solver := ⟨_, Try.func43, rfl, by kernel_rfl, by kernel_rfl, by kernel_rfl⟩
noncomputable def F_spec_l15Truth : FnI := ⟨44, bodyOf Try.f44, 24, [.tmp 2], [0, 2, 3, 4, 5, 14], fun | 4 => [0, 3, 4, 5] | _ => [], 1, .mix [.own]⟩
theorem ok_spec_l15Truth : FnOk Try.prog F_spec_l15Truth := ⟨_, Try.func44, rfl, by kernel_rfl, by kernel_rfl, by kernel_rfl⟩
noncomputable def F_spec_l15SpoilSolver : FnI := ⟨45, bodyOf Try.f45, 86, [.cell 4 25], [0, 1, 3, 4, 5, 9, 16, 24, 35, 40, 50, 55, 69, 74], fun  | _ => [], 1, .alias⟩
theorem ok_spec_l15SpoilSolver : FnOk Try.prog F_spec_l15SpoilSolver := ⟨_, Try.func45, rfl, by kernel_rfl, by kernel_rfl, by kernel_rfl⟩
noncomputable def F_impl_within : FnI := ⟨46, bodyOf Try.f46, 15, [.tmp 6], [0, 1, 2, 6], fun  | _ => [], 0, .fresh⟩
theorem ok_impl_within : FnOk Try.prog F_impl_within := ⟨_, Try.func46, rfl, by kernel_rfl, by kernel_rfl, by kernel_rfl⟩
noncomputable def F_impl_RowOk : FnI := ⟨47, bodyOf Try.f47, 35, [.tmp 4], [0, 1, 4, 5, 6, 7, 8, 9, 10, 31], fun | 2 => [0, 1, 7, 8, 9] | _ => [], 0, .fresh⟩
theorem ok_impl_RowOk : FnOk Try.prog F_impl_RowOk := ⟨_, Try.func47, rfl, by kernel_rfl, by kernel_rfl, by kernel_rfl⟩
noncomputable def F_impl_mask : FnI := ⟨48, bodyOf Try.f48, 18, [.tmp 2], [0, 2, 3, 5, 6, 7, 8, 9], fun | 3 => [3, 6, 7, 8] | _ => [], 0, .fresh⟩
theorem ok_impl_mask : FnOk Try.prog F_impl_mask := ⟨_, Try.func48, rfl, by kernel_rfl, by kernel_rfl, by kernel_rfl⟩
noncomputable def F_spec_l1In : FnI := ⟨49, bodyOf Try.f49, 15, [.tmp 6], [0, 1, 2, 6], fun  | _ => [], 0, .fresh⟩
theorem ok_spec_l1In : FnOk Try.prog F_spec_l1In := ⟨_, Try.func49, rfl, by kernel_rfl, by kernel_rfl, by kernel_rfl⟩
noncomputable def F_spec_l3Has : FnI := ⟨50, bodyOf Try.f50, 18, [.tmp 4], [0, 1, 4, 5, 9, 17], fun | 2 => [0, 1, 5] | _ => [], 0, .fresh⟩
theorem ok_spec_l3Has : FnOk Try.prog F_spec_l3Has := ⟨_, Try.func50, rfl, by kernel_rfl, by kernel_rfl, by kernel_rfl⟩
noncomputable def F_impl_Solver_prefix : FnI := ⟨51, bodyOf Try.f51, 21, [.tmp 2], [0, 1, 2, 3, 5, 9, 17], fun | 2 => [1, 3] | _ => [], 0, .fresh⟩
theorem ok_impl_Solver_prefix : FnOk Try.prog F_impl_Solver_prefix := ⟨_, Try.func51, rfl, by kernel_rfl, by kernel_rfl, by kernel_rfl⟩
noncomputable def F_impl_Solver_reduce : FnI := ⟨52, bodyOf Try.f52, 37, [.tmp 6, .tmp 7], [0, 1, 2, 3, 6, 7, 9, 11, 12, 13, 14, 24], fun | 2 => [1, 2, 11, 12, 13] | _ => [], 0, .fresh⟩
theorem ok_impl_Solver_reduce : FnOk Try.prog F_impl_Solver_reduce := ⟨_, Try.func52, rfl, by kernel_rfl, by kernel_rfl, by kernel_rfl⟩
noncomputable def F_impl_zeros : FnI := ⟨53, bodyOf Try.f53, 6, [.tmp 2], [0, 2], fun  | _ => [], 0, .fresh⟩
theorem ok_impl_zeros : FnOk Try.prog F_impl_zeros := ⟨_, Try.func53, rfl, by kernel_rfl, by kernel_rfl, by kernel_rfl⟩
noncomputable def F_laws_szEqS : FnI := ⟨54, bodyOf Try.f54, 27, [.tmp 4], [0, 1, 4, 5, 11, 15, 25], fun | 5 => [0, 1, 5] | _ => [], 0, .fresh⟩
theorem ok_laws_szEqS : FnOk Try.prog F_laws_szEqS := ⟨_, Try.func54, rfl, by kernel_rfl, by kernel_rfl, by kernel_rfl⟩
noncomputable def F_laws_toEqS : FnI := ⟨55, bodyOf Try.f55, 23, [.tmp 2], [0, 2, 3, 4, 11], fun | 3 => [0, 3, 4] | _ => [], 0, .mix [.own]⟩
theorem ok_laws_toEqS : FnOk Try.prog F_laws_toEqS := ⟨_, Try.func55, rfl, by kernel_rfl, by kernel_rfl, by kernel_rfl⟩
noncomputable def F_laws_eqEqS : FnI := ⟨56, bodyOf Try.f56, 27, [.tmp 4], [0, 1, 4, 5, 10, 14, 26], fun | 4 => [0, 1, 5] | _ => [], 0, .fresh⟩
theorem ok_laws_eqEqS : FnOk Try.prog F_laws_eqEqS := ⟨_, Try.func56, rfl, by kernel_rfl, by kernel_rfl, by kernel_rfl⟩
noncomputable def F_laws_markEqS : FnI := ⟨57, bodyOf Try.f57, 28, [.tmp 4], [0, 1, 4, 5, 9], fun | 2 => [0, 1, 5] | _ => [], 0, .write⟩
theorem ok_laws_markEqS : FnOk Try.prog F_laws_markEqS := ⟨_, Try.func57, rfl, by kernel_rfl, by kernel_rfl, by kernel_rfl⟩
noncomputable def F_laws_heldEqS : FnI := ⟨58, bodyOf Try.f58, 32, [.tmp 4], [0, 1, 4, 5, 9, 20, 28], fun | 2 => [0, 1, 5] | _ => [], 0, .fresh⟩
theorem ok_laws_heldEqS : FnOk Try.prog F_laws_heldEqS := ⟨_, Try.func58, rfl, by kernel_rfl, by kernel_rfl, by kernel_rfl⟩
noncomputable def F_impl_cloneSolver : FnI := ⟨59, bodyOf Try.f59, 33, [.cell 2 25], [0, 1, 2, 3, 5, 13, 14, 15, 16], fun | 3 => [2, 3, 13, 14, 15] | _ => [], 0, .mix [.own]⟩
theorem ok_impl_cloneSolver : FnOk Try.prog F_impl_cloneSolver := ⟨_, Try.func59, rfl, by kernel_rfl, by kernel_rfl, by kernel_rfl⟩
noncomputable def F_spec_l15Row : FnI := ⟨60, bodyOf Try.f60, 21, [.tmp 4], [0, 1, 4, 5, 6, 10, 15], fun | 3 => [0, 1, 5, 6] | _ => [], 1, .mix [.own]⟩
theorem ok_spec_l15Row : FnOk Try.prog F_spec_l15Row := ⟨_, Try.func60, rfl, by kernel_rfl, by kernel_rfl, by kernel_rfl⟩
noncomputable def F_spec_l1Many : FnI := ⟨61, bodyOf Try.f61, 20, [.tmp 4], [0, 1, 4, 5, 7, 10], fun | 2 => [0, 1, 5] | _ => [], 0, .fresh⟩
theorem ok_spec_l1Many : FnOk Try.prog F_spec_l1Many := ⟨_, Try.func61, rfl, by kernel_rfl, by kernel_rfl, by kernel_rfl⟩
noncomputable def F_spec_l2Block : FnI := ⟨62, bodyOf Try.f62, 26, [.tmp 4], [0, 1, 4, 5, 6, 11], fun | 3 => [0, 1, 5, 6] | _ => [], 0, .fresh⟩
theorem ok_spec_l2Block : FnOk Try.prog F_spec_l2Block := ⟨_, Try.func62, rfl, by kernel_rfl, by kernel_rfl, by kernel_rfl⟩
noncomputable def F_impl_rowOf : FnI := ⟨63, bodyOf Try.f63, 20, [.tmp 2], [0, 2, 3, 4, 6, 7, 13], fun | 3 => [0, 3, 6] | _ => [], 0, .mix [.own]⟩
theorem ok_impl_rowOf : FnOk Try.prog F_impl_rowOf := ⟨_, Try.func63, rfl, by kernel_rfl, by kernel_rfl, by kernel_rfl⟩
noncomputable def F_impl_xor : FnI := ⟨64, bodyOf Try.f64, 26, [.tmp 4], [0, 1, 4, 5, 6, 10, 11, 12], fun | 3 => [1, 5, 10, 11] | _ => [], 0, .fresh⟩
theorem ok_impl_xor : FnOk Try.prog F_impl_xor := ⟨_, Try.func64, rfl, by kernel_rfl, by kernel_rfl, by kernel_rfl⟩
noncomputable def F_slices_Insert : FnI := ⟨65, bodyOf Try.f65, 95, [.tmp 6], [0, 1, 2, 6, 7, 8, 9, 16, 22, 31, 68], fun  | _ => [], 0, .fresh⟩
theorem ok_slices_Insert : FnOk Try.prog F_slices_Insert := ⟨_, Try.func65, rfl, by kernel_rfl, by kernel_rfl, by kernel_rfl⟩
noncomputable def F_spec_l3Less : FnI := ⟨66, bodyOf Try.f66, 44, [.cell 4 38], [0, 1, 2, 3, 4, 5, 10, 23], fun | 2 => [2, 3, 4, 5] | _ => [], 0, .alias⟩
theorem ok_spec_l3Less : FnOk Try.prog F_spec_l3Less := ⟨_, Try.func66, rfl, by kernel_rfl, by kernel_rfl, by kernel_rfl⟩
noncomputable def F_spec_l3Zero : FnI := ⟨67, bodyOf Try.f67, 7, [.tmp 2], [0, 2], fun  | _ => [], 0, .fresh⟩
theorem ok_spec_l3Zero : FnOk Try.prog F_spec_l3Zero := ⟨_, Try.func67, rfl, by kernel_rfl, by kernel_rfl, by kernel_rfl⟩
noncomputable def F_spec_l2Xor : FnI := ⟨68, bodyOf Try.f68, 80, [.tmp 4], [0, 1, 4, 5, 6, 7, 18, 23, 54], fun | 4 => [0, 1, 5, 6, 7] | _ => [], 0, .mix [.own]⟩
theorem ok_spec_l2Xor : FnOk Try.prog F_spec_l2Xor := ⟨_, Try.func68, rfl, by kernel_rfl, by kernel_rfl, by kernel_rfl⟩
noncomputable def F_impl_Solver_get : FnI := ⟨69, bodyOf Try.f69, 30, [.tmp 4, .tmp 5], [0, 1, 2, 4, 5, 7, 9, 10, 11, 12, 26], fun | 2 => [1, 9, 10, 11] | _ => [], 0, .fresh⟩
theorem ok_impl_Solver_get : FnOk Try.prog F_impl_Solver_get := ⟨_, Try.func69, rfl, by kernel_rfl, by kernel_rfl, by kernel_rfl⟩
noncomputable def F_laws_szEq : FnI := ⟨70, bodyOf Try.f70, 19, [.tmp 4], [0, 1, 2, 4, 10, 17], fun  | _ => [], 0, .fresh⟩
theorem ok_laws_szEq : FnOk Try.prog F_laws_szEq := ⟨_, Try.func70, rfl, by kernel_rfl, by kernel_rfl, by kernel_rfl⟩
noncomputable def F_laws_toEq : FnI := ⟨71, bodyOf Try.f71, 12, [.cell 2 38], [0, 1, 2, 3], fun  | _ => [], 0, .mix [.own]⟩
theorem ok_laws_toEq : FnOk Try.prog F_laws_toEq := ⟨_, Try.func71, rfl, by kernel_rfl, by kernel_rfl, by kernel_rfl⟩
noncomputable def F_laws_eqEq : FnI := ⟨72, bodyOf Try.f72, 16, [.tmp 4], [0, 1, 2, 3, 4, 10, 15], fun  | _ => [], 0, .fresh⟩
theorem ok_laws_eqEq : FnOk Try.prog F_laws_eqEq := ⟨_, Try.func72, rfl, by kernel_rfl, by kernel_rfl, by kernel_rfl⟩
noncomputable def F_laws_markText : FnI := ⟨73, bodyOf Try.f73, 20, [.tmp 2], [0, 2, 3, 5, 7], fun | 4 => [0, 3] | _ => [], 0, .fresh⟩
theorem ok_laws_markText : FnOk Try.prog F_laws_markText := ⟨_, Try.func73, rfl, by kernel_rfl, by kernel_rfl, by kernel_rfl⟩
noncomputable def F_laws_heldIntS : FnI := ⟨74, bodyOf Try.f74, 21, [.tmp 4], [0, 1, 4, 5, 9, 17], fun | 2 => [0, 1, 5] | _ => [], 0, .fresh⟩
theorem ok_laws_heldIntS : FnOk Try.prog F_laws_heldIntS := ⟨_, Try.func74, rfl, by kernel_rfl, by kernel_rfl, by kernel_rfl⟩
noncomputable def F_slices_rotateRight : FnI := ⟨76, bodyOf Try.f76, 10, [], [0, 1], fun  | _ => [], 0, .fresh⟩
theorem ok_slices_rotateRight : FnOk Try.prog F_slices_rotateRight := ⟨_, Try.func76, rfl, by kernel_rfl, by kernel_rfl, by kernel_rfl⟩
noncomputable def F_laws_szIntS : FnI := ⟨77, bodyOf Try.f77, 12, [.tmp 4], [0, 1, 4, 10], fun  | _ => [], 0, .fresh⟩
theorem ok_laws_szIntS : FnOk Try.prog F_laws_szIntS := ⟨_, Try.func77, rfl, by kernel_rfl, by kernel_rfl, by kernel_rfl⟩
noncomputable def F_slices_rotateLeft : FnI := ⟨78, bodyOf Try.f78, 14, [], [0, 1], fun  | _ => [], 0, .fresh⟩
theorem ok_slices_rotateLeft : FnOk Try.prog F_slices_rotateLeft := ⟨_, Try.func78, rfl, by kernel_rfl, by kernel_rfl, by kernel_rfl⟩
noncomputable def F_slices_Reverse : FnI := ⟨79, bodyOf Try.f79, 28, [], [0, 2, 3, 9], fun | 1 => [0, 2, 3] | _ => [], 0, .fresh⟩
theorem ok_slices_Reverse : FnOk Try.prog F_slices_Reverse := ⟨_, Try.func79, rfl, by kernel_rfl, by kernel_rfl, by kernel_rfl⟩

end Go.Proofs.Ytbolcmcjniiieaa.V
