/- Tables of types, and where functions lie. Conditions: those that each theorem states. -/
import Derived.Test.YthcahoeoofggjaaVxD
import Derived.Test.YthcahoeoofggjaaProg
set_option linter.unusedVariables false
set_option linter.unusedSimpArgs false
namespace Go.Proofs.Ythcahoeoofggjaa.V
open Go Vx Go.Proofs
noncomputable def TIs : List (TypeId × TI) := [(2, ⟨.int .i64, 1, 8, [.int .i64]⟩), (3, ⟨.int .i64, 1, 8, [.int .i64]⟩), (4, ⟨.bool, 1, 1, [.bool]⟩), (5, ⟨.int .u8, 1, 1, [.int .u8]⟩), (9, ⟨.str, 1, 16, [.str]⟩), (12, ⟨.int .u64, 1, 8, [.int .u64]⟩), (13, ⟨.struct [(0, 1), (1, 1)], 2, 24, [.str, .int .u64]⟩), (21, ⟨.int .i32, 1, 4, [.int .i32]⟩), (22, ⟨.slice 5, 1, 24, [.nil (.ints .u8)]⟩), (25, ⟨.slice 3, 1, 24, [.nil (.ints .i64)]⟩), (31, ⟨.struct [(0, 1), (1, 1), (2, 1), (3, 1)], 4, 64, [.int .i64, .int .i64, .nil (.ints .i64), .nil (.ints .i64)]⟩), (32, ⟨.struct [(0, 1), (1, 1), (2, 1), (3, 1)], 4, 64, [.int .i64, .int .i64, .nil (.ints .i64), .nil (.ints .i64)]⟩), (42, ⟨.slice 9, 1, 24, [.nil .strs]⟩), (44, ⟨.struct [(0, 1), (1, 1), (2, 1), (3, 1)], 4, 64, [.int .i64, .int .i64, .nil (.ints .i64), .nil (.ints .i64)]⟩), (45, ⟨.slice 143, 1, 24, [.nil .eqs]⟩), (46, ⟨.struct [(0, 1), (1, 1), (2, 1)], 3, 40, [.int .i64, .int .i64, .nil .eqs]⟩), (47, ⟨.struct [(0, 1), (1, 1), (2, 1)], 3, 40, [.int .i64, .int .i64, .nil .eqs]⟩), (48, ⟨.struct [(0, 4), (4, 3)], 7, 104, [.int .i64, .int .i64, .nil (.ints .i64), .nil (.ints .i64), .int .i64, .int .i64, .nil .eqs]⟩), (49, ⟨.struct [(0, 4), (4, 3)], 7, 104, [.int .i64, .int .i64, .nil (.ints .i64), .nil (.ints .i64), .int .i64, .int .i64, .nil .eqs]⟩), (52, ⟨.slice 88, 1, 24, [.nil .eqs]⟩), (53, ⟨.struct [(0, 1), (1, 1), (2, 1)], 3, 40, [.int .i64, .int .i64, .nil .eqs]⟩), (54, ⟨.struct [(0, 1), (1, 1), (2, 1)], 3, 40, [.int .i64, .int .i64, .nil .eqs]⟩), (55, ⟨.struct [(0, 4), (4, 3)], 7, 104, [.int .i64, .int .i64, .nil (.ints .i64), .nil (.ints .i64), .int .i64, .int .i64, .nil .eqs]⟩), (56, ⟨.struct [(0, 4), (4, 3)], 7, 104, [.int .i64, .int .i64, .nil (.ints .i64), .nil (.ints .i64), .int .i64, .int .i64, .nil .eqs]⟩), (87, ⟨.struct [(0, 1), (1, 1)], 2, 40, [.nil (.ints .i64), .str]⟩), (88, ⟨.struct [(0, 1), (1, 1)], 2, 40, [.nil (.ints .i64), .str]⟩), (100, ⟨.int .u32, 1, 4, [.int .u32]⟩), (109, ⟨.struct [(0, 1), (1, 1)], 2, 32, [.nil (.ints .u8), .int .i64]⟩), (110, ⟨.struct [(0, 1), (1, 1)], 2, 32, [.nil (.ints .u8), .int .i64]⟩), (114, ⟨.int .u64, 1, 8, [.int .u64]⟩), (130, ⟨.int .i64, 1, 8, [.int .i64]⟩), (140, ⟨.int .u64, 1, 8, [.int .u64]⟩), (143, ⟨.struct [(0, 1), (1, 1)], 2, 40, [.nil (.ints .i64), .str]⟩), (148, ⟨.int .u64, 1, 8, [.int .u64]⟩)]
noncomputable def EKs : List (TypeId × RK) := [(3, (.ints .i64)), (5, (.ints .u8)), (9, .strs), (88, .eqs), (100, (.ints .u32))]
theorem tabs (Φ : FuncId → List DA → Option Sp) : TabOk Try.prog ⟨TIs, EKs, Φ⟩ := tab_ok (by kernel_rfl)
theorem snd {F : FnI} (hf : FnOk Try.prog F) (l : List (FuncId × (List DA → Option Sp))) (hl : Sound Try.prog EKs (tabF l)) {S : List DA → Option Sp} (h : ∀ args sp, S args = some sp → sp.pre = true → sp.mode = F.mode ∧ ∃ n, runF ⟨TIs, EKs, tabF l⟩ F n args = some (sp.res, sp.outs)) : Sound1 Try.prog EKs F.f S := sound1 (cx := ⟨TIs, EKs, tabF l⟩) (tabs _) (by kernel_rfl) hl hf h
theorem mix : Try.prog.follows .mixedOrders = true := by kernel_rfl
noncomputable def cxOf (l : List (FuncId × (List DA → Option Sp))) : Cx := ⟨TIs, EKs, tabF l⟩
noncomputable def F_laws_FnRowDraw : FnI := ⟨3, bodyOf Try.f3, 51, [.tmp 2], [0, 2, 3, 4, 5, 8, 30, 38], fun  | _ => [], 0, .fresh⟩
theorem ok_laws_FnRowDraw : FnOk Try.prog F_laws_FnRowDraw := ⟨_, Try.func3, rfl, by kernel_rfl, by kernel_rfl, by kernel_rfl⟩
noncomputable def F_laws_FnPlanRow : FnI := ⟨4, bodyOf Try.f4, 75, [.tmp 2], [0, 2, 3, 4, 5, 6, 7, 10, 29, 39, 54, 74], fun | 11 => [3, 4, 5, 7] | _ => [], 0, .fresh⟩
theorem ok_laws_FnPlanRow : FnOk Try.prog F_laws_FnPlanRow := ⟨_, Try.func4, rfl, by kernel_rfl, by kernel_rfl, by kernel_rfl⟩
noncomputable def F_laws_FnPlanSymbol : FnI := ⟨5, bodyOf Try.f5, 78, [.tmp 2], [0, 2, 3, 4, 5, 6, 7, 8, 9, 10, 11, 14, 46], fun  | _ => [], 0, .fresh⟩
theorem ok_laws_FnPlanSymbol : FnOk Try.prog F_laws_FnPlanSymbol := ⟨_, Try.func5, rfl, by kernel_rfl, by kernel_rfl, by kernel_rfl⟩
noncomputable def F_laws_FnExactGetWant : FnI := ⟨6, bodyOf Try.f6, 31, [.tmp 4], [0, 1, 2, 4, 5, 6, 7, 8, 13, 25, 30], fun  | _ => [], 0, .fresh⟩
theorem ok_laws_FnExactGetWant : FnOk Try.prog F_laws_FnExactGetWant := ⟨_, Try.func6, rfl, by kernel_rfl, by kernel_rfl, by kernel_rfl⟩
noncomputable def F_laws_FnGetWant : FnI := ⟨7, bodyOf Try.f7, 79, [.tmp 2], [0, 2, 3, 4, 5, 6, 7, 9, 10, 12, 15, 28, 30, 37, 52, 66], fun | 16 => [3, 4, 5, 9, 10] | 11 => [3, 4, 5, 6, 7] | _ => [], 0, .fresh⟩
theorem ok_laws_FnGetWant : FnOk Try.prog F_laws_FnGetWant := ⟨_, Try.func7, rfl, by kernel_rfl, by kernel_rfl, by kernel_rfl⟩
noncomputable def F_laws_FnGetFirst : FnI := ⟨8, bodyOf Try.f8, 96, [.tmp 2], [0, 2, 3, 4, 5, 6, 7, 9, 10, 11, 14, 38, 46, 64, 70, 87], fun | 16 => [3, 4, 5, 6, 11] | 8 => [3, 4, 5, 6] | _ => [], 0, .fresh⟩
theorem ok_laws_FnGetFirst : FnOk Try.prog F_laws_FnGetFirst := ⟨_, Try.func8, rfl, by kernel_rfl, by kernel_rfl, by kernel_rfl⟩
noncomputable def F_laws_FnGetTruth : FnI := ⟨9, bodyOf Try.f9, 130, [.tmp 4], [0, 1, 4, 5, 6, 7, 8, 9, 10, 11, 12, 13, 14, 22, 46, 58, 93, 120], fun | 8 => [1, 5, 6, 7, 8] | _ => [], 0, .fresh⟩
theorem ok_laws_FnGetTruth : FnOk Try.prog F_laws_FnGetTruth := ⟨_, Try.func9, rfl, by kernel_rfl, by kernel_rfl, by kernel_rfl⟩
noncomputable def F_spec_DrawRowDraw : FnI := ⟨10, bodyOf Try.f10, 11, [.tmp 2, .tmp 3], [0, 2, 3, 4], fun  | _ => [], 0, .fresh⟩
theorem ok_spec_DrawRowDraw : FnOk Try.prog F_spec_DrawRowDraw := ⟨_, Try.func10, rfl, by kernel_rfl, by kernel_rfl, by kernel_rfl⟩
noncomputable def F_impl_RowDraw : FnI := ⟨11, bodyOf Try.f11, 61, [.tmp 4], [0, 1, 4, 5, 6, 7, 8, 9, 18, 24, 25, 26, 36, 37, 38], fun | 12 => [5, 6, 7, 36, 37] | 7 => [0, 5, 6, 7, 24, 25] | _ => [], 0, .fresh⟩
theorem ok_impl_RowDraw : FnOk Try.prog F_impl_RowDraw := ⟨_, Try.func11, rfl, by kernel_rfl, by kernel_rfl, by kernel_rfl⟩
noncomputable def F_laws_whInts : FnI := ⟨12, bodyOf Try.f12, 26, [.tmp 4], [0, 1, 4, 5, 10, 14, 25], fun | 4 => [0, 1, 5] | _ => [], 0, .fresh⟩
theorem ok_laws_whInts : FnOk Try.prog F_laws_whInts := ⟨_, Try.func12, rfl, by kernel_rfl, by kernel_rfl, by kernel_rfl⟩
noncomputable def F_spec_RowDraw : FnI := ⟨13, bodyOf Try.f13, 17, [.tmp 4], [0, 1, 4, 12], fun  | _ => [], 0, .fresh⟩
theorem ok_spec_RowDraw : FnOk Try.prog F_spec_RowDraw := ⟨_, Try.func13, rfl, by kernel_rfl, by kernel_rfl, by kernel_rfl⟩
noncomputable def F_laws_whIn : FnI := ⟨14, bodyOf Try.f14, 15, [.tmp 6], [0, 1, 2, 6], fun  | _ => [], 0, .fresh⟩
theorem ok_laws_whIn : FnOk Try.prog F_laws_whIn := ⟨_, Try.func14, rfl, by kernel_rfl, by kernel_rfl, by kernel_rfl⟩
noncomputable def F_impl_RowOk : FnI := ⟨15, bodyOf Try.f15, 35, [.tmp 4], [0, 1, 4, 5, 6, 7, 8, 9, 10, 31], fun | 2 => [0, 1, 7, 8, 9] | _ => [], 0, .fresh⟩
theorem ok_impl_RowOk : FnOk Try.prog F_impl_RowOk := ⟨_, Try.func15, rfl, by kernel_rfl, by kernel_rfl, by kernel_rfl⟩
noncomputable def F_spec_DrawPlanRow : FnI := ⟨16, bodyOf Try.f16, 11, [.cell 2 32, .tmp 3], [0, 2, 3, 4], fun  | _ => [], 0, .fresh⟩
theorem ok_spec_DrawPlanRow : FnOk Try.prog F_spec_DrawPlanRow := ⟨_, Try.func16, rfl, by kernel_rfl, by kernel_rfl, by kernel_rfl⟩
noncomputable def F_impl_PlanRow : FnI := ⟨17, bodyOf Try.f17, 65, [.tmp 4], [0, 1, 2, 4, 5, 7, 8, 9, 10, 11, 19, 24, 28, 29, 30, 31, 43, 44, 45, 46, 55], fun | 14 => [1, 2, 8, 9, 43, 44, 45] | 7 => [1, 2, 5, 28, 29, 30] | _ => [], 0, .fresh⟩
theorem ok_impl_PlanRow : FnOk Try.prog F_impl_PlanRow := ⟨_, Try.func17, rfl, by kernel_rfl, by kernel_rfl, by kernel_rfl⟩
noncomputable def F_spec_PlanRow : FnI := ⟨18, bodyOf Try.f18, 17, [.tmp 4], [0, 1, 2, 4, 12], fun  | _ => [], 0, .fresh⟩
theorem ok_spec_PlanRow : FnOk Try.prog F_spec_PlanRow := ⟨_, Try.func18, rfl, by kernel_rfl, by kernel_rfl, by kernel_rfl⟩
noncomputable def F_impl_PlanCount : FnI := ⟨19, bodyOf Try.f19, 8, [.tmp 2], [0, 1, 2, 5], fun  | _ => [], 0, .fresh⟩
theorem ok_impl_PlanCount : FnOk Try.prog F_impl_PlanCount := ⟨_, Try.func19, rfl, by kernel_rfl, by kernel_rfl, by kernel_rfl⟩
noncomputable def F_spec_DrawPlanSymbol : FnI := ⟨20, bodyOf Try.f20, 21, [.cell 2 32, .tmp 3, .tmp 4], [0, 2, 3, 4, 5, 6, 7, 8], fun  | _ => [], 0, .fresh⟩
theorem ok_spec_DrawPlanSymbol : FnOk Try.prog F_spec_DrawPlanSymbol := ⟨_, Try.func20, rfl, by kernel_rfl, by kernel_rfl, by kernel_rfl⟩
noncomputable def F_impl_PlanSymbol : FnI := ⟨21, bodyOf Try.f21, 20, [.tmp 6, .tmp 7], [0, 1, 2, 3, 6, 7, 10], fun  | _ => [], 0, .fresh⟩
theorem ok_impl_PlanSymbol : FnOk Try.prog F_impl_PlanSymbol := ⟨_, Try.func21, rfl, by kernel_rfl, by kernel_rfl, by kernel_rfl⟩
noncomputable def F_spec_PlanSymbol : FnI := ⟨22, bodyOf Try.f22, 32, [.tmp 6, .tmp 7], [0, 1, 2, 3, 6, 7, 22], fun  | _ => [], 0, .fresh⟩
theorem ok_spec_PlanSymbol : FnOk Try.prog F_spec_PlanSymbol := ⟨_, Try.func22, rfl, by kernel_rfl, by kernel_rfl, by kernel_rfl⟩
noncomputable def F_impl_RowSum : FnI := ⟨23, bodyOf Try.f23, 61, [.tmp 4, .tmp 5], [0, 1, 4, 5, 7, 8, 10, 27, 28, 29, 30, 31, 40, 47, 48, 49, 50], fun | 11 => [0, 8, 47, 48, 49] | 4 => [0, 1, 28, 29, 30] | _ => [], 0, .fresh⟩
theorem ok_impl_RowSum : FnOk Try.prog F_impl_RowSum := ⟨_, Try.func23, rfl, by kernel_rfl, by kernel_rfl, by kernel_rfl⟩
noncomputable def F_impl_PlanCut : FnI := ⟨24, bodyOf Try.f24, 49, [.tmp 4], [0, 1, 2, 4, 5, 6, 17, 33], fun | 6 => [1, 2, 5, 6] | _ => [], 0, .fresh⟩
theorem ok_impl_PlanCut : FnOk Try.prog F_impl_PlanCut := ⟨_, Try.func24, rfl, by kernel_rfl, by kernel_rfl, by kernel_rfl⟩
noncomputable def F_laws_szGetting : FnI := ⟨25, bodyOf Try.f25, 18, [.tmp 4], [0, 1, 2, 4, 10, 16], fun  | _ => [], 0, .fresh⟩
theorem ok_laws_szGetting : FnOk Try.prog F_laws_szGetting := ⟨_, Try.func25, rfl, by kernel_rfl, by kernel_rfl, by kernel_rfl⟩
noncomputable def F_spec_GetWant : FnI := ⟨26, bodyOf Try.f26, 43, [.tmp 4], [0, 1, 2, 4, 5, 6, 14, 23, 41], fun | 4 => [1, 2, 5] | _ => [], 0, .fresh⟩
theorem ok_spec_GetWant : FnOk Try.prog F_spec_GetWant := ⟨_, Try.func26, rfl, by kernel_rfl, by kernel_rfl, by kernel_rfl⟩
noncomputable def F_laws_toGetting : FnI := ⟨27, bodyOf Try.f27, 13, [.cell 2 56], [0, 1, 2, 3], fun  | _ => [], 0, .fresh⟩
theorem ok_laws_toGetting : FnOk Try.prog F_laws_toGetting := ⟨_, Try.func27, rfl, by kernel_rfl, by kernel_rfl, by kernel_rfl⟩
noncomputable def F_impl_GetWant : FnI := ⟨28, bodyOf Try.f28, 40, [.tmp 4], [0, 1, 2, 4, 5, 7, 15, 24, 38], fun | 4 => [1, 2, 5] | _ => [], 0, .fresh⟩
theorem ok_impl_GetWant : FnOk Try.prog F_impl_GetWant := ⟨_, Try.func28, rfl, by kernel_rfl, by kernel_rfl, by kernel_rfl⟩
noncomputable def F_laws_eqGetting : FnI := ⟨29, bodyOf Try.f29, 17, [.tmp 4], [0, 1, 2, 3, 4, 10, 16], fun  | _ => [], 0, .fresh⟩
theorem ok_laws_eqGetting : FnOk Try.prog F_laws_eqGetting := ⟨_, Try.func29, rfl, by kernel_rfl, by kernel_rfl, by kernel_rfl⟩
noncomputable def F_spec_DrawGetWant : FnI := ⟨30, bodyOf Try.f30, 17, [.cell 2 56, .tmp 3], [0, 2, 3, 4, 5], fun  | _ => [], 0, .alias⟩
theorem ok_spec_DrawGetWant : FnOk Try.prog F_spec_DrawGetWant := ⟨_, Try.func30, rfl, by kernel_rfl, by kernel_rfl, by kernel_rfl⟩
noncomputable def F_impl_GetAdd : FnI := ⟨31, bodyOf Try.f31, 44, [.cell 6 56, .tmp 7], [0, 1, 2, 3, 6, 7, 8, 9, 10, 13, 27], fun  | _ => [], 0, .alias⟩
theorem ok_impl_GetAdd : FnOk Try.prog F_impl_GetAdd := ⟨_, Try.func31, rfl, by kernel_rfl, by kernel_rfl, by kernel_rfl⟩
noncomputable def F_impl_SolverSays : FnI := ⟨32, bodyOf Try.f32, 31, [.tmp 4, .tmp 5], [0, 1, 2, 4, 5, 6, 7, 17, 29], fun  | _ => [], 0, .fresh⟩
theorem ok_impl_SolverSays : FnOk Try.prog F_impl_SolverSays := ⟨_, Try.func32, rfl, by kernel_rfl, by kernel_rfl, by kernel_rfl⟩
noncomputable def F_impl_GetDone : FnI := ⟨33, bodyOf Try.f33, 9, [.tmp 2], [0, 1, 2], fun  | _ => [], 0, .fresh⟩
theorem ok_impl_GetDone : FnOk Try.prog F_impl_GetDone := ⟨_, Try.func33, rfl, by kernel_rfl, by kernel_rfl, by kernel_rfl⟩
noncomputable def F_spec_DrawPlanCut : FnI := ⟨34, bodyOf Try.f34, 24, [.cell 2 32, .tmp 3], [0, 2, 3, 4, 5, 6, 15, 19], fun  | _ => [], 0, .fresh⟩
theorem ok_spec_DrawPlanCut : FnOk Try.prog F_spec_DrawPlanCut := ⟨_, Try.func34, rfl, by kernel_rfl, by kernel_rfl, by kernel_rfl⟩
noncomputable def F_impl_GetNew : FnI := ⟨35, bodyOf Try.f35, 15, [.cell 2 56], [0, 1, 2, 5], fun  | _ => [], 0, .alias⟩
theorem ok_impl_GetNew : FnOk Try.prog F_impl_GetNew := ⟨_, Try.func35, rfl, by kernel_rfl, by kernel_rfl, by kernel_rfl⟩
noncomputable def F_laws_whGetting : FnI := ⟨36, bodyOf Try.f36, 17, [.tmp 4], [0, 1, 2, 3, 4], fun  | _ => [], 0, .fresh⟩
theorem ok_laws_whGetting : FnOk Try.prog F_laws_whGetting := ⟨_, Try.func36, rfl, by kernel_rfl, by kernel_rfl, by kernel_rfl⟩
noncomputable def F_spec_GetNew : FnI := ⟨37, bodyOf Try.f37, 15, [.cell 2 56], [0, 1, 2, 5], fun  | _ => [], 0, .alias⟩
theorem ok_spec_GetNew : FnOk Try.prog F_spec_GetNew := ⟨_, Try.func37, rfl, by kernel_rfl, by kernel_rfl, by kernel_rfl⟩
noncomputable def F_spec_PlanOk : FnI := ⟨38, bodyOf Try.f38, 90, [.tmp 2], [0, 1, 2, 3, 35, 40, 78], fun | 4 => [1, 3] | _ => [], 0, .fresh⟩
theorem ok_spec_PlanOk : FnOk Try.prog F_spec_PlanOk := ⟨_, Try.func38, rfl, by kernel_rfl, by kernel_rfl, by kernel_rfl⟩
noncomputable def F_impl_GetWindows : FnI := ⟨39, bodyOf Try.f39, 8, [.tmp 2], [0, 1, 2, 5], fun  | _ => [], 0, .fresh⟩
theorem ok_impl_GetWindows : FnOk Try.prog F_impl_GetWindows := ⟨_, Try.func39, rfl, by kernel_rfl, by kernel_rfl, by kernel_rfl⟩
noncomputable def F_impl_GetText : FnI := ⟨40, bodyOf Try.f40, 35, [.tmp 2], [0, 1, 2, 3, 4, 5, 9, 12, 13, 14], fun | 5 => [1, 3, 12, 13] | _ => [], 0, .fresh⟩
theorem ok_impl_GetText : FnOk Try.prog F_impl_GetText := ⟨_, Try.func40, rfl, by kernel_rfl, by kernel_rfl, by kernel_rfl⟩
noncomputable def F_impl_SolverRank : FnI := ⟨41, bodyOf Try.f41, 9, [.tmp 2], [0, 1, 2, 5], fun  | _ => [], 0, .fresh⟩
theorem ok_impl_SolverRank : FnOk Try.prog F_impl_SolverRank := ⟨_, Try.func41, rfl, by kernel_rfl, by kernel_rfl, by kernel_rfl⟩
noncomputable def F_spec_l1Open : FnI := ⟨42, bodyOf Try.f42, 11, [.tmp 2], [0, 2, 5], fun  | _ => [], 0, .alias⟩
theorem ok_spec_l1Open : FnOk Try.prog F_spec_l1Open := ⟨_, Try.func42, rfl, by kernel_rfl, by kernel_rfl, by kernel_rfl⟩
noncomputable def F_spec_l1Rd_pick : FnI := ⟨43, bodyOf Try.f43, 99, [.tmp 4], [0, 1, 4, 5, 6, 24, 36], fun  | _ => [], 1, .fresh⟩
theorem ok_spec_l1Rd_pick : FnOk Try.prog F_spec_l1Rd_pick := ⟨_, Try.func43, rfl, by kernel_rfl, by kernel_rfl, by kernel_rfl⟩
noncomputable def F_spec_l15Seed : FnI := ⟨44, bodyOf Try.f44, 20, [.tmp 2], [0, 2], fun  | _ => [], 1, .fresh⟩
theorem ok_spec_l15Seed : FnOk Try.prog F_spec_l15Seed := ⟨_, Try.func44, rfl, by kernel_rfl, by kernel_rfl, by kernel_rfl⟩
noncomputable def F_impl_within : FnI := ⟨45, bodyOf Try.f45, 15, [.tmp 6], [0, 1, 2, 6], fun  | _ => [], 0, .fresh⟩
theorem ok_impl_within : FnOk Try.prog F_impl_within := ⟨_, Try.func45, rfl, by kernel_rfl, by kernel_rfl, by kernel_rfl⟩
noncomputable def F_impl_SeedNext : FnI := ⟨46, bodyOf Try.f46, 10, [.tmp 2], [0, 2, 5], fun  | _ => [], 0, .fresh⟩
theorem ok_impl_SeedNext : FnOk Try.prog F_impl_SeedNext := ⟨_, Try.func46, rfl, by kernel_rfl, by kernel_rfl, by kernel_rfl⟩
noncomputable def F_impl_DegreeOf : FnI := ⟨47, bodyOf Try.f47, 28, [.tmp 4], [0, 1, 4, 5, 6, 7, 10, 12, 13, 14, 15, 24], fun | 5 => [1, 5, 12, 13, 14] | _ => [], 0, .fresh⟩
theorem ok_impl_DegreeOf : FnOk Try.prog F_impl_DegreeOf := ⟨_, Try.func47, rfl, by kernel_rfl, by kernel_rfl, by kernel_rfl⟩
noncomputable def F_impl_SeedPick : FnI := ⟨48, bodyOf Try.f48, 17, [.tmp 4], [0, 1, 4, 12], fun  | _ => [], 0, .fresh⟩
theorem ok_impl_SeedPick : FnOk Try.prog F_impl_SeedPick := ⟨_, Try.func48, rfl, by kernel_rfl, by kernel_rfl, by kernel_rfl⟩
noncomputable def F_slices_Delete : FnI := ⟨49, bodyOf Try.f49, 33, [.tmp 6], [0, 1, 2, 6, 7, 16], fun  | _ => [], 0, .fresh⟩
theorem ok_slices_Delete : FnOk Try.prog F_slices_Delete := ⟨_, Try.func49, rfl, by kernel_rfl, by kernel_rfl, by kernel_rfl⟩
noncomputable def F_slices_Sort : FnI := ⟨50, bodyOf Try.f50, 11, [], [0, 2], fun  | _ => [], 0, .fresh⟩
theorem ok_slices_Sort : FnOk Try.prog F_slices_Sort := ⟨_, Try.func50, rfl, by kernel_rfl, by kernel_rfl, by kernel_rfl⟩
noncomputable def F_spec_l1In : FnI := ⟨51, bodyOf Try.f51, 15, [.tmp 6], [0, 1, 2, 6], fun  | _ => [], 0, .fresh⟩
theorem ok_spec_l1In : FnOk Try.prog F_spec_l1In := ⟨_, Try.func51, rfl, by kernel_rfl, by kernel_rfl, by kernel_rfl⟩
noncomputable def F_spec_l4Row : FnI := ⟨52, bodyOf Try.f52, 58, [.tmp 4], [0, 1, 4, 5, 6, 7, 8, 9, 10, 11, 22, 32], fun | 10 => [5, 6, 7, 9, 10] | 5 => [0, 5, 6, 7, 8] | _ => [], 0, .fresh⟩
theorem ok_spec_l4Row : FnOk Try.prog F_spec_l4Row := ⟨_, Try.func52, rfl, by kernel_rfl, by kernel_rfl, by kernel_rfl⟩
noncomputable def F_spec_l15AnyPlan : FnI := ⟨53, bodyOf Try.f53, 13, [.cell 2 32], [0, 2, 3, 8], fun  | _ => [], 1, .fresh⟩
theorem ok_spec_l15AnyPlan : FnOk Try.prog F_spec_l15AnyPlan := ⟨_, Try.func53, rfl, by kernel_rfl, by kernel_rfl, by kernel_rfl⟩
noncomputable def F_spec_l15Id : FnI := ⟨54, bodyOf Try.f54, 15, [.tmp 2], [0, 2], fun  | _ => [], 1, .fresh⟩
theorem ok_spec_l15Id : FnOk Try.prog F_spec_l15Id := ⟨_, Try.func54, rfl, by kernel_rfl, by kernel_rfl, by kernel_rfl⟩
noncomputable def F_impl_PlanOk : FnI := ⟨55, bodyOf Try.f55, 84, [.tmp 2], [0, 1, 2, 3, 4, 19, 46, 48, 49, 50, 51, 82], fun | 6 => [1, 48, 49, 50] | _ => [], 0, .fresh⟩
theorem ok_impl_PlanOk : FnOk Try.prog F_impl_PlanOk := ⟨_, Try.func55, rfl, by kernel_rfl, by kernel_rfl, by kernel_rfl⟩
noncomputable def F_impl_Plan_count : FnI := ⟨56, bodyOf Try.f56, 12, [.tmp 2], [0, 1, 2], fun  | _ => [], 0, .fresh⟩
theorem ok_impl_Plan_count : FnOk Try.prog F_impl_Plan_count := ⟨_, Try.func56, rfl, by kernel_rfl, by kernel_rfl, by kernel_rfl⟩
noncomputable def F_spec_l5Row : FnI := ⟨57, bodyOf Try.f57, 16, [.tmp 4], [0, 1, 2, 4, 8], fun  | _ => [], 0, .fresh⟩
theorem ok_spec_l5Row : FnOk Try.prog F_spec_l5Row := ⟨_, Try.func57, rfl, by kernel_rfl, by kernel_rfl, by kernel_rfl⟩
noncomputable def F_spec_l2Sum : FnI := ⟨58, bodyOf Try.f58, 29, [.tmp 6], [0, 1, 2, 6, 7, 8, 16], fun | 3 => [0, 1, 7, 8] | _ => [], 0, .fresh⟩
theorem ok_spec_l2Sum : FnOk Try.prog F_spec_l2Sum := ⟨_, Try.func58, rfl, by kernel_rfl, by kernel_rfl, by kernel_rfl⟩
noncomputable def F_spec_l5Cut : FnI := ⟨59, bodyOf Try.f59, 41, [.tmp 4], [0, 1, 2, 4, 5, 6, 7, 23], fun | 4 => [2, 5, 6, 7] | _ => [], 0, .fresh⟩
theorem ok_spec_l5Cut : FnOk Try.prog F_spec_l5Cut := ⟨_, Try.func59, rfl, by kernel_rfl, by kernel_rfl, by kernel_rfl⟩
noncomputable def F_impl_zeros : FnI := ⟨60, bodyOf Try.f60, 6, [.tmp 2], [0, 2], fun  | _ => [], 0, .fresh⟩
theorem ok_impl_zeros : FnOk Try.prog F_impl_zeros := ⟨_, Try.func60, rfl, by kernel_rfl, by kernel_rfl, by kernel_rfl⟩
noncomputable def F_impl_xor : FnI := ⟨61, bodyOf Try.f61, 26, [.tmp 4], [0, 1, 4, 5, 6, 10, 11, 12], fun | 3 => [1, 5, 10, 11] | _ => [], 0, .fresh⟩
theorem ok_impl_xor : FnOk Try.prog F_impl_xor := ⟨_, Try.func61, rfl, by kernel_rfl, by kernel_rfl, by kernel_rfl⟩
noncomputable def F_laws_szPlan : FnI := ⟨62, bodyOf Try.f62, 18, [.tmp 4], [0, 1, 2, 4, 10, 16], fun  | _ => [], 0, .fresh⟩
theorem ok_laws_szPlan : FnOk Try.prog F_laws_szPlan := ⟨_, Try.func62, rfl, by kernel_rfl, by kernel_rfl, by kernel_rfl⟩
noncomputable def F_laws_szSolver : FnI := ⟨63, bodyOf Try.f63, 12, [.tmp 4], [0, 1, 2, 4, 10], fun  | _ => [], 0, .fresh⟩
theorem ok_laws_szSolver : FnOk Try.prog F_laws_szSolver := ⟨_, Try.func63, rfl, by kernel_rfl, by kernel_rfl, by kernel_rfl⟩
noncomputable def F_spec_GetOk : FnI := ⟨64, bodyOf Try.f64, 29, [.tmp 2], [0, 1, 2], fun  | _ => [], 0, .fresh⟩
theorem ok_spec_GetOk : FnOk Try.prog F_spec_GetOk := ⟨_, Try.func64, rfl, by kernel_rfl, by kernel_rfl, by kernel_rfl⟩
noncomputable def F_spec_l3Less : FnI := ⟨65, bodyOf Try.f65, 44, [.cell 4 88], [0, 1, 2, 3, 4, 5, 10, 23], fun | 2 => [2, 3, 4, 5] | _ => [], 0, .alias⟩
theorem ok_spec_l3Less : FnOk Try.prog F_spec_l3Less := ⟨_, Try.func65, rfl, by kernel_rfl, by kernel_rfl, by kernel_rfl⟩
noncomputable def F_spec_l3Zero : FnI := ⟨66, bodyOf Try.f66, 7, [.tmp 2], [0, 2], fun  | _ => [], 0, .fresh⟩
theorem ok_spec_l3Zero : FnOk Try.prog F_spec_l3Zero := ⟨_, Try.func66, rfl, by kernel_rfl, by kernel_rfl, by kernel_rfl⟩
noncomputable def F_laws_toPlan : FnI := ⟨67, bodyOf Try.f67, 19, [.cell 2 32], [0, 1, 2, 3], fun  | _ => [], 0, .fresh⟩
theorem ok_laws_toPlan : FnOk Try.prog F_laws_toPlan := ⟨_, Try.func67, rfl, by kernel_rfl, by kernel_rfl, by kernel_rfl⟩
noncomputable def F_laws_toSolver : FnI := ⟨68, bodyOf Try.f68, 15, [.cell 2 54], [0, 1, 2, 3], fun  | _ => [], 0, .mix [.own]⟩
theorem ok_laws_toSolver : FnOk Try.prog F_laws_toSolver := ⟨_, Try.func68, rfl, by kernel_rfl, by kernel_rfl, by kernel_rfl⟩
noncomputable def F_impl_GetOk : FnI := ⟨69, bodyOf Try.f69, 29, [.tmp 2], [0, 1, 2], fun  | _ => [], 0, .fresh⟩
theorem ok_impl_GetOk : FnOk Try.prog F_impl_GetOk := ⟨_, Try.func69, rfl, by kernel_rfl, by kernel_rfl, by kernel_rfl⟩
noncomputable def F_laws_eqPlan : FnI := ⟨70, bodyOf Try.f70, 27, [.tmp 4], [0, 1, 2, 3, 4, 9, 14, 20, 26], fun  | _ => [], 0, .fresh⟩
theorem ok_laws_eqPlan : FnOk Try.prog F_laws_eqPlan := ⟨_, Try.func70, rfl, by kernel_rfl, by kernel_rfl, by kernel_rfl⟩
noncomputable def F_laws_eqSolver : FnI := ⟨71, bodyOf Try.f71, 21, [.tmp 4], [0, 1, 2, 3, 4, 9, 14, 20], fun  | _ => [], 0, .fresh⟩
theorem ok_laws_eqSolver : FnOk Try.prog F_laws_eqSolver := ⟨_, Try.func71, rfl, by kernel_rfl, by kernel_rfl, by kernel_rfl⟩
noncomputable def F_spec_l15AnyGetting : FnI := ⟨72, bodyOf Try.f72, 29, [.cell 2 56, .tmp 3], [0, 2, 3, 4, 5, 12, 13, 20], fun  | _ => [], 1, .alias⟩
theorem ok_spec_l15AnyGetting : FnOk Try.prog F_spec_l15AnyGetting := ⟨_, Try.func72, rfl, by kernel_rfl, by kernel_rfl, by kernel_rfl⟩
noncomputable def F_impl_cloneGet : FnI := ⟨73, bodyOf Try.f73, 10, [.cell 2 56], [0, 1, 2], fun  | _ => [], 0, .alias⟩
theorem ok_impl_cloneGet : FnOk Try.prog F_impl_cloneGet := ⟨_, Try.func73, rfl, by kernel_rfl, by kernel_rfl, by kernel_rfl⟩
noncomputable def F_impl_Solver_add : FnI := ⟨74, bodyOf Try.f74, 125, [.cell 6 54, .tmp 7], [0, 1, 2, 3, 6, 7, 8, 9, 10, 11, 12, 14, 15, 27, 39, 44, 60, 61, 62, 63, 76, 111], fun | 12 => [6, 8, 9, 10, 11, 12, 60, 61, 62] | _ => [], 0, .alias⟩
theorem ok_impl_Solver_add : FnOk Try.prog F_impl_Solver_add := ⟨_, Try.func74, rfl, by kernel_rfl, by kernel_rfl, by kernel_rfl⟩
noncomputable def F_impl_SolverOk : FnI := ⟨75, bodyOf Try.f75, 89, [.tmp 2], [0, 1, 2, 3, 4, 5, 7, 17, 19, 20, 21, 22, 65, 75, 76, 77, 78, 87], fun | 12 => [3, 75, 76, 77] | 5 => [1, 3, 19, 20, 21] | _ => [], 0, .fresh⟩
theorem ok_impl_SolverOk : FnOk Try.prog F_impl_SolverOk := ⟨_, Try.func75, rfl, by kernel_rfl, by kernel_rfl, by kernel_rfl⟩
noncomputable def F_impl_Solver_reduce : FnI := ⟨76, bodyOf Try.f76, 37, [.tmp 6, .tmp 7], [0, 1, 2, 3, 6, 7, 9, 11, 12, 13, 14, 24], fun | 2 => [1, 2, 11, 12, 13] | _ => [], 0, .fresh⟩
theorem ok_impl_Solver_reduce : FnOk Try.prog F_impl_Solver_reduce := ⟨_, Try.func76, rfl, by kernel_rfl, by kernel_rfl, by kernel_rfl⟩
noncomputable def F_impl_mask : FnI := ⟨77, bodyOf Try.f77, 18, [.tmp 2], [0, 2, 3, 5, 6, 7, 8, 9], fun | 3 => [3, 6, 7, 8] | _ => [], 0, .fresh⟩
theorem ok_impl_mask : FnOk Try.prog F_impl_mask := ⟨_, Try.func77, rfl, by kernel_rfl, by kernel_rfl, by kernel_rfl⟩
noncomputable def F_impl_Getting_done : FnI := ⟨78, bodyOf Try.f78, 10, [.tmp 2], [0, 1, 2], fun  | _ => [], 0, .fresh⟩
theorem ok_impl_Getting_done : FnOk Try.prog F_impl_Getting_done := ⟨_, Try.func78, rfl, by kernel_rfl, by kernel_rfl, by kernel_rfl⟩
noncomputable def F_spec_l15Thing : FnI := ⟨79, bodyOf Try.f79, 21, [.tmp 4], [0, 1, 4, 5, 6, 10], fun | 3 => [0, 1, 5, 6] | _ => [], 1, .fresh⟩
theorem ok_spec_l15Thing : FnOk Try.prog F_spec_l15Thing := ⟨_, Try.func79, rfl, by kernel_rfl, by kernel_rfl, by kernel_rfl⟩
noncomputable def F_impl_clonePlan : FnI := ⟨80, bodyOf Try.f80, 16, [.cell 2 32], [0, 1, 2], fun  | _ => [], 0, .mix [.own,.own]⟩
theorem ok_impl_clonePlan : FnOk Try.prog F_impl_clonePlan := ⟨_, Try.func80, rfl, by kernel_rfl, by kernel_rfl, by kernel_rfl⟩
noncomputable def F_impl_SolverNew : FnI := ⟨81, bodyOf Try.f81, 18, [.cell 4 54], [0, 1, 4, 12], fun  | _ => [], 0, .alias⟩
theorem ok_impl_SolverNew : FnOk Try.prog F_impl_SolverNew := ⟨_, Try.func81, rfl, by kernel_rfl, by kernel_rfl, by kernel_rfl⟩
noncomputable def F_laws_whPlan : FnI := ⟨82, bodyOf Try.f82, 31, [.tmp 4], [0, 1, 2, 3, 4], fun  | _ => [], 0, .fresh⟩
theorem ok_laws_whPlan : FnOk Try.prog F_laws_whPlan := ⟨_, Try.func82, rfl, by kernel_rfl, by kernel_rfl, by kernel_rfl⟩
noncomputable def F_laws_whSolver : FnI := ⟨83, bodyOf Try.f83, 63, [.tmp 4], [0, 1, 2, 3, 4, 5, 26, 31, 62], fun | 4 => [2, 3, 5] | _ => [], 0, .fresh⟩
theorem ok_laws_whSolver : FnOk Try.prog F_laws_whSolver := ⟨_, Try.func83, rfl, by kernel_rfl, by kernel_rfl, by kernel_rfl⟩
noncomputable def F_spec_l6Plan : FnI := ⟨84, bodyOf Try.f84, 14, [.cell 2 32], [0, 1, 2], fun  | _ => [], 0, .mix [.own,.own]⟩
theorem ok_spec_l6Plan : FnOk Try.prog F_spec_l6Plan := ⟨_, Try.func84, rfl, by kernel_rfl, by kernel_rfl, by kernel_rfl⟩
noncomputable def F_spec_SolverNew : FnI := ⟨85, bodyOf Try.f85, 17, [.cell 4 54], [0, 1, 4, 12], fun  | _ => [], 0, .alias⟩
theorem ok_spec_SolverNew : FnOk Try.prog F_spec_SolverNew := ⟨_, Try.func85, rfl, by kernel_rfl, by kernel_rfl, by kernel_rfl⟩
noncomputable def F_spec_l5Count : FnI := ⟨86, bodyOf Try.f86, 12, [.tmp 2], [0, 1, 2], fun  | _ => [], 0, .fresh⟩
theorem ok_spec_l5Count : FnOk Try.prog F_spec_l5Count := ⟨_, Try.func86, rfl, by kernel_rfl, by kernel_rfl, by kernel_rfl⟩
noncomputable def F_impl_Getting_windows : FnI := ⟨87, bodyOf Try.f87, 25, [.tmp 2], [0, 1, 2, 3, 21], fun | 2 => [1, 3] | _ => [], 0, .fresh⟩
theorem ok_impl_Getting_windows : FnOk Try.prog F_impl_Getting_windows := ⟨_, Try.func87, rfl, by kernel_rfl, by kernel_rfl, by kernel_rfl⟩
noncomputable def F_impl_Solver_prefix : FnI := ⟨88, bodyOf Try.f88, 21, [.tmp 2], [0, 1, 2, 3, 5, 9, 17], fun | 2 => [1, 3] | _ => [], 0, .fresh⟩
theorem ok_impl_Solver_prefix : FnOk Try.prog F_impl_Solver_prefix := ⟨_, Try.func88, rfl, by kernel_rfl, by kernel_rfl, by kernel_rfl⟩
noncomputable def F_impl_Solver_get : FnI := ⟨89, bodyOf Try.f89, 30, [.tmp 4, .tmp 5], [0, 1, 2, 4, 5, 7, 9, 10, 11, 12, 26], fun | 2 => [1, 9, 10, 11] | _ => [], 0, .fresh⟩
theorem ok_impl_Solver_get : FnOk Try.prog F_impl_Solver_get := ⟨_, Try.func89, rfl, by kernel_rfl, by kernel_rfl, by kernel_rfl⟩
noncomputable def F_impl_Degrees : FnI := ⟨90, bodyOf Try.f90, 42, [.tmp 2], [0, 2, 3, 4, 5, 6, 10, 14, 20], fun | 6 => [0, 3, 4, 5] | _ => [], 0, .fresh⟩
theorem ok_impl_Degrees : FnOk Try.prog F_impl_Degrees := ⟨_, Try.func90, rfl, by kernel_rfl, by kernel_rfl, by kernel_rfl⟩
noncomputable def F_spec_l4Next : FnI := ⟨93, bodyOf Try.f93, 7, [.tmp 2], [0, 2], fun  | _ => [], 0, .fresh⟩
theorem ok_spec_l4Next : FnOk Try.prog F_spec_l4Next := ⟨_, Try.func93, rfl, by kernel_rfl, by kernel_rfl, by kernel_rfl⟩
noncomputable def F_spec_l4Degree : FnI := ⟨94, bodyOf Try.f94, 31, [.tmp 4], [0, 1, 4, 5, 6, 12, 21], fun | 3 => [0, 1, 5, 6] | _ => [], 0, .fresh⟩
theorem ok_spec_l4Degree : FnOk Try.prog F_spec_l4Degree := ⟨_, Try.func94, rfl, by kernel_rfl, by kernel_rfl, by kernel_rfl⟩
noncomputable def F_spec_l4Pick : FnI := ⟨95, bodyOf Try.f95, 9, [.tmp 4], [0, 1, 4], fun  | _ => [], 0, .fresh⟩
theorem ok_spec_l4Pick : FnOk Try.prog F_spec_l4Pick := ⟨_, Try.func95, rfl, by kernel_rfl, by kernel_rfl, by kernel_rfl⟩
noncomputable def F_spec_l4Into : FnI := ⟨96, bodyOf Try.f96, 32, [.tmp 4], [0, 1, 4, 5, 17], fun | 2 => [0, 1, 5] | _ => [], 0, .mix [.own]⟩
theorem ok_spec_l4Into : FnOk Try.prog F_spec_l4Into := ⟨_, Try.func96, rfl, by kernel_rfl, by kernel_rfl, by kernel_rfl⟩
noncomputable def F_spec_l15Plan : FnI := ⟨97, bodyOf Try.f97, 61, [.cell 2 32], [0, 2, 3, 4, 5, 12, 25, 51], fun  | _ => [], 1, .fresh⟩
theorem ok_spec_l15Plan : FnOk Try.prog F_spec_l15Plan := ⟨_, Try.func97, rfl, by kernel_rfl, by kernel_rfl, by kernel_rfl⟩
noncomputable def F_spec_l15SpoilPlan : FnI := ⟨98, bodyOf Try.f98, 68, [.cell 4 32], [0, 1, 3, 4, 5, 9, 11, 22, 30, 45, 60], fun  | _ => [], 1, .fresh⟩
theorem ok_spec_l15SpoilPlan : FnOk Try.prog F_spec_l15SpoilPlan := ⟨_, Try.func98, rfl, by kernel_rfl, by kernel_rfl, by kernel_rfl⟩
noncomputable def F_spec_l5Window : FnI := ⟨99, bodyOf Try.f99, 55, [.tmp 4], [0, 1, 2, 4, 5, 6, 7, 8, 13, 31, 40], fun | 8 => [2, 7, 8] | 3 => [1, 2, 5, 6] | _ => [], 0, .fresh⟩
theorem ok_spec_l5Window : FnOk Try.prog F_spec_l5Window := ⟨_, Try.func99, rfl, by kernel_rfl, by kernel_rfl, by kernel_rfl⟩
noncomputable def F_spec_l1Many : FnI := ⟨100, bodyOf Try.f100, 20, [.tmp 4], [0, 1, 4, 5, 7, 10], fun | 2 => [0, 1, 5] | _ => [], 0, .fresh⟩
theorem ok_spec_l1Many : FnOk Try.prog F_spec_l1Many := ⟨_, Try.func100, rfl, by kernel_rfl, by kernel_rfl, by kernel_rfl⟩
noncomputable def F_spec_l2Block : FnI := ⟨101, bodyOf Try.f101, 26, [.tmp 4], [0, 1, 4, 5, 6, 11], fun | 3 => [0, 1, 5, 6] | _ => [], 0, .fresh⟩
theorem ok_spec_l2Block : FnOk Try.prog F_spec_l2Block := ⟨_, Try.func101, rfl, by kernel_rfl, by kernel_rfl, by kernel_rfl⟩
noncomputable def F_laws_szIntS : FnI := ⟨102, bodyOf Try.f102, 12, [.tmp 4], [0, 1, 4, 10], fun  | _ => [], 0, .fresh⟩
theorem ok_laws_szIntS : FnOk Try.prog F_laws_szIntS := ⟨_, Try.func102, rfl, by kernel_rfl, by kernel_rfl, by kernel_rfl⟩
noncomputable def F_laws_szEqS : FnI := ⟨103, bodyOf Try.f103, 27, [.tmp 4], [0, 1, 4, 5, 11, 15, 25], fun | 5 => [0, 1, 5] | _ => [], 0, .fresh⟩
theorem ok_laws_szEqS : FnOk Try.prog F_laws_szEqS := ⟨_, Try.func103, rfl, by kernel_rfl, by kernel_rfl, by kernel_rfl⟩
noncomputable def F_spec_SolverOk : FnI := ⟨104, bodyOf Try.f104, 103, [.tmp 2], [0, 1, 2, 3, 4, 5, 6, 16, 21, 68, 73, 80, 102], fun | 13 => [1, 5, 6] | 10 => [1, 5] | 4 => [1, 3] | _ => [], 0, .fresh⟩
theorem ok_spec_SolverOk : FnOk Try.prog F_spec_SolverOk := ⟨_, Try.func104, rfl, by kernel_rfl, by kernel_rfl, by kernel_rfl⟩
noncomputable def F_spec_l3Has : FnI := ⟨105, bodyOf Try.f105, 18, [.tmp 4], [0, 1, 4, 5, 9, 17], fun | 2 => [0, 1, 5] | _ => [], 0, .fresh⟩
theorem ok_spec_l3Has : FnOk Try.prog F_spec_l3Has := ⟨_, Try.func105, rfl, by kernel_rfl, by kernel_rfl, by kernel_rfl⟩
noncomputable def F_spec_l2Xor : FnI := ⟨106, bodyOf Try.f106, 80, [.tmp 4], [0, 1, 4, 5, 6, 7, 18, 23, 54], fun | 4 => [0, 1, 5, 6, 7] | _ => [], 0, .mix [.own]⟩
theorem ok_spec_l2Xor : FnOk Try.prog F_spec_l2Xor := ⟨_, Try.func106, rfl, by kernel_rfl, by kernel_rfl, by kernel_rfl⟩
noncomputable def F_laws_toIntS : FnI := ⟨107, bodyOf Try.f107, 22, [.tmp 2], [0, 2, 3, 4, 11], fun | 3 => [0, 3, 4] | _ => [], 0, .mix [.own]⟩
theorem ok_laws_toIntS : FnOk Try.prog F_laws_toIntS := ⟨_, Try.func107, rfl, by kernel_rfl, by kernel_rfl, by kernel_rfl⟩
noncomputable def F_laws_toEqS : FnI := ⟨108, bodyOf Try.f108, 23, [.tmp 2], [0, 2, 3, 4, 11], fun | 3 => [0, 3, 4] | _ => [], 0, .mix [.own]⟩
theorem ok_laws_toEqS : FnOk Try.prog F_laws_toEqS := ⟨_, Try.func108, rfl, by kernel_rfl, by kernel_rfl, by kernel_rfl⟩
noncomputable def F_laws_eqIntS : FnI := ⟨109, bodyOf Try.f109, 26, [.tmp 4], [0, 1, 4, 5, 10, 14, 25], fun | 4 => [0, 1, 5] | _ => [], 0, .fresh⟩
theorem ok_laws_eqIntS : FnOk Try.prog F_laws_eqIntS := ⟨_, Try.func109, rfl, by kernel_rfl, by kernel_rfl, by kernel_rfl⟩
noncomputable def F_laws_eqEqS : FnI := ⟨110, bodyOf Try.f110, 27, [.tmp 4], [0, 1, 4, 5, 10, 14, 26], fun | 4 => [0, 1, 5] | _ => [], 0, .fresh⟩
theorem ok_laws_eqEqS : FnOk Try.prog F_laws_eqEqS := ⟨_, Try.func110, rfl, by kernel_rfl, by kernel_rfl, by kernel_rfl⟩
noncomputable def F_spec_l15Getting : FnI := ⟨111, bodyOf Try.f111, 61, [.cell 2 56, .tmp 3], [0, 2, 3, 4, 5, 6, 7, 8, 9, 10, 34], fun | 6 => [0, 2, 4, 5, 6, 7, 8] | _ => [], 1, .alias⟩
theorem ok_spec_l15Getting : FnOk Try.prog F_spec_l15Getting := ⟨_, Try.func111, rfl, by kernel_rfl, by kernel_rfl, by kernel_rfl⟩
noncomputable def F_spec_l15SpoilSolver : FnI := ⟨112, bodyOf Try.f112, 86, [.cell 4 54], [0, 1, 3, 4, 5, 9, 16, 24, 35, 40, 50, 55, 69, 74], fun  | _ => [], 1, .alias⟩
theorem ok_spec_l15SpoilSolver : FnOk Try.prog F_spec_l15SpoilSolver := ⟨_, Try.func112, rfl, by kernel_rfl, by kernel_rfl, by kernel_rfl⟩
noncomputable def F_impl_cloneSolver : FnI := ⟨113, bodyOf Try.f113, 33, [.cell 2 54], [0, 1, 2, 3, 5, 13, 14, 15, 16], fun | 3 => [2, 3, 13, 14, 15] | _ => [], 0, .mix [.own]⟩
theorem ok_impl_cloneSolver : FnOk Try.prog F_impl_cloneSolver := ⟨_, Try.func113, rfl, by kernel_rfl, by kernel_rfl, by kernel_rfl⟩
noncomputable def F_impl_rowOf : FnI := ⟨114, bodyOf Try.f114, 20, [.tmp 2], [0, 2, 3, 4, 6, 7, 13], fun | 3 => [0, 3, 6] | _ => [], 0, .mix [.own]⟩
theorem ok_impl_rowOf : FnOk Try.prog F_impl_rowOf := ⟨_, Try.func114, rfl, by kernel_rfl, by kernel_rfl, by kernel_rfl⟩
noncomputable def F_slices_Insert : FnI := ⟨115, bodyOf Try.f115, 95, [.tmp 6], [0, 1, 2, 6, 7, 8, 9, 16, 22, 31, 68], fun  | _ => [], 0, .fresh⟩
theorem ok_slices_Insert : FnOk Try.prog F_slices_Insert := ⟨_, Try.func115, rfl, by kernel_rfl, by kernel_rfl, by kernel_rfl⟩
noncomputable def F_spec_l4Degrees : FnI := ⟨127, bodyOf Try.f127, 39, [.tmp 2], [0, 2, 3, 4, 5, 6, 10, 16, 26], fun | 4 => [0, 3, 4, 5] | _ => [], 0, .fresh⟩
theorem ok_spec_l4Degrees : FnOk Try.prog F_spec_l4Degrees := ⟨_, Try.func127, rfl, by kernel_rfl, by kernel_rfl, by kernel_rfl⟩
noncomputable def F_spec_l5For : FnI := ⟨128, bodyOf Try.f128, 35, [.cell 2 32], [0, 2, 3, 4, 5, 10, 22], fun | 2 => [2, 3] | _ => [], 0, .fresh⟩
theorem ok_spec_l5For : FnOk Try.prog F_spec_l5For := ⟨_, Try.func128, rfl, by kernel_rfl, by kernel_rfl, by kernel_rfl⟩
noncomputable def F_laws_szEq : FnI := ⟨129, bodyOf Try.f129, 19, [.tmp 4], [0, 1, 2, 4, 10, 17], fun  | _ => [], 0, .fresh⟩
theorem ok_laws_szEq : FnOk Try.prog F_laws_szEq := ⟨_, Try.func129, rfl, by kernel_rfl, by kernel_rfl, by kernel_rfl⟩
noncomputable def F_spec_RowOk : FnI := ⟨130, bodyOf Try.f130, 38, [.tmp 4], [0, 1, 4, 5, 9, 35], fun | 2 => [0, 1, 5] | _ => [], 0, .fresh⟩
theorem ok_spec_RowOk : FnOk Try.prog F_spec_RowOk := ⟨_, Try.func130, rfl, by kernel_rfl, by kernel_rfl, by kernel_rfl⟩
noncomputable def F_laws_toEq : FnI := ⟨131, bodyOf Try.f131, 12, [.cell 2 88], [0, 1, 2, 3], fun  | _ => [], 0, .mix [.new]⟩
theorem ok_laws_toEq : FnOk Try.prog F_laws_toEq := ⟨_, Try.func131, rfl, by kernel_rfl, by kernel_rfl, by kernel_rfl⟩
noncomputable def F_laws_eqEq : FnI := ⟨132, bodyOf Try.f132, 16, [.tmp 4], [0, 1, 2, 3, 4, 10, 15], fun  | _ => [], 0, .fresh⟩
theorem ok_laws_eqEq : FnOk Try.prog F_laws_eqEq := ⟨_, Try.func132, rfl, by kernel_rfl, by kernel_rfl, by kernel_rfl⟩
noncomputable def F_spec_GetAdd : FnI := ⟨133, bodyOf Try.f133, 44, [.cell 6 56, .tmp 7], [0, 1, 2, 3, 6, 7, 8, 9, 10, 13, 27], fun  | _ => [], 0, .alias⟩
theorem ok_spec_GetAdd : FnOk Try.prog F_spec_GetAdd := ⟨_, Try.func133, rfl, by kernel_rfl, by kernel_rfl, by kernel_rfl⟩
noncomputable def F_spec_l3Copy : FnI := ⟨134, bodyOf Try.f134, 38, [.cell 2 54], [0, 1, 2, 3, 4, 14], fun | 3 => [1, 2, 3, 4] | _ => [], 0, .mix [.own]⟩
theorem ok_spec_l3Copy : FnOk Try.prog F_spec_l3Copy := ⟨_, Try.func134, rfl, by kernel_rfl, by kernel_rfl, by kernel_rfl⟩
noncomputable def F_spec_l15BadRow : FnI := ⟨135, bodyOf Try.f135, 28, [.tmp 4], [0, 1, 4, 5, 10, 11, 17, 22], fun  | _ => [], 1, .mix [.own]⟩
theorem ok_spec_l15BadRow : FnOk Try.prog F_spec_l15BadRow := ⟨_, Try.func135, rfl, by kernel_rfl, by kernel_rfl, by kernel_rfl⟩
noncomputable def F_slices_rotateRight : FnI := ⟨137, bodyOf Try.f137, 10, [], [0, 1], fun  | _ => [], 0, .fresh⟩
theorem ok_slices_rotateRight : FnOk Try.prog F_slices_rotateRight := ⟨_, Try.func137, rfl, by kernel_rfl, by kernel_rfl, by kernel_rfl⟩
noncomputable def F_spec_l6Copy : FnI := ⟨144, bodyOf Try.f144, 10, [.cell 2 56], [0, 1, 2], fun  | _ => [], 0, .alias⟩
theorem ok_spec_l6Copy : FnOk Try.prog F_spec_l6Copy := ⟨_, Try.func144, rfl, by kernel_rfl, by kernel_rfl, by kernel_rfl⟩
noncomputable def F_spec_l3Add : FnI := ⟨145, bodyOf Try.f145, 104, [.cell 6 54, .tmp 7], [0, 1, 2, 3, 6, 7, 8, 9, 10, 11, 12, 13, 26, 32, 44, 58, 82, 96], fun | 10 => [6, 8, 9, 10, 11, 12] | _ => [], 0, .alias⟩
theorem ok_spec_l3Add : FnOk Try.prog F_spec_l3Add := ⟨_, Try.func145, rfl, by kernel_rfl, by kernel_rfl, by kernel_rfl⟩
noncomputable def F_spec_l15Row : FnI := ⟨146, bodyOf Try.f146, 21, [.tmp 4], [0, 1, 4, 5, 6, 10, 15], fun | 3 => [0, 1, 5, 6] | _ => [], 1, .mix [.own]⟩
theorem ok_spec_l15Row : FnOk Try.prog F_spec_l15Row := ⟨_, Try.func146, rfl, by kernel_rfl, by kernel_rfl, by kernel_rfl⟩
noncomputable def F_slices_rotateLeft : FnI := ⟨147, bodyOf Try.f147, 14, [], [0, 1], fun  | _ => [], 0, .fresh⟩
theorem ok_slices_rotateLeft : FnOk Try.prog F_slices_rotateLeft := ⟨_, Try.func147, rfl, by kernel_rfl, by kernel_rfl, by kernel_rfl⟩
noncomputable def F_slices_Reverse : FnI := ⟨149, bodyOf Try.f149, 28, [], [0, 2, 3, 9], fun | 1 => [0, 2, 3] | _ => [], 0, .fresh⟩
theorem ok_slices_Reverse : FnOk Try.prog F_slices_Reverse := ⟨_, Try.func149, rfl, by kernel_rfl, by kernel_rfl, by kernel_rfl⟩

end Go.Proofs.Ythcahoeoofggjaa.V
