/- Tables of types, and where functions lie. Conditions: those that each theorem states. -/
import Derived.Test.YtbgheffgkncpgaaDoorVxD
import Derived.Test.YtbgheffgkncpgaaDoorProg
set_option linter.unusedVariables false
set_option linter.unusedSimpArgs false
namespace Go.Proofs.YtbgheffgkncpgaaDoor.V
open Go Vx Go.Proofs
noncomputable def TIs : List (TypeId × TI) := [(2, ⟨.int .i64, 1, 8, [.int .i64]⟩), (3, ⟨.int .i64, 1, 8, [.int .i64]⟩), (4, ⟨.bool, 1, 1, [.bool]⟩), (5, ⟨.int .u8, 1, 1, [.int .u8]⟩), (9, ⟨.str, 1, 16, [.str]⟩), (12, ⟨.int .u64, 1, 8, [.int .u64]⟩), (13, ⟨.struct [(0, 1), (1, 1)], 2, 24, [.str, .int .u64]⟩), (21, ⟨.int .i32, 1, 4, [.int .i32]⟩), (24, ⟨.slice 5, 1, 24, [.nil (.ints .u8)]⟩), (27, ⟨.slice 3, 1, 24, [.nil (.ints .i64)]⟩), (28, ⟨.struct [(0, 1), (1, 1), (2, 1), (3, 1)], 4, 64, [.int .i64, .int .i64, .nil (.ints .i64), .nil (.ints .i64)]⟩), (29, ⟨.struct [(0, 1), (1, 1), (2, 1), (3, 1)], 4, 64, [.int .i64, .int .i64, .nil (.ints .i64), .nil (.ints .i64)]⟩), (32, ⟨.struct [(0, 1), (1, 1), (2, 1), (3, 1)], 4, 64, [.int .i64, .int .i64, .nil (.ints .i64), .nil (.ints .i64)]⟩), (46, ⟨.slice 9, 1, 24, [.nil .strs]⟩), (55, ⟨.int .u32, 1, 4, [.int .u32]⟩), (56, ⟨.slice 55, 1, 24, [.nil (.ints .u32)]⟩), (59, ⟨.int .u64, 1, 8, [.int .u64]⟩), (60, ⟨.arr .u32 55 8, 8, 32, [.int .u32, .int .u32, .int .u32, .int .u32, .int .u32, .int .u32, .int .u32, .int .u32]⟩), (61, ⟨.int .u64, 1, 8, [.int .u64]⟩), (62, ⟨.arr .u32 55 64, 64, 256, [.int .u32, .int .u32, .int .u32, .int .u32, .int .u32, .int .u32, .int .u32, .int .u32, .int .u32, .int .u32, .int .u32, .int .u32, .int .u32, .int .u32, .int .u32, .int .u32, .int .u32, .int .u32, .int .u32, .int .u32, .int .u32, .int .u32, .int .u32, .int .u32, .int .u32, .int .u32, .int .u32, .int .u32, .int .u32, .int .u32, .int .u32, .int .u32, .int .u32, .int .u32, .int .u32, .int .u32, .int .u32, .int .u32, .int .u32, .int .u32, .int .u32, .int .u32, .int .u32, .int .u32, .int .u32, .int .u32, .int .u32, .int .u32, .int .u32, .int .u32, .int .u32, .int .u32, .int .u32, .int .u32, .int .u32, .int .u32, .int .u32, .int .u32, .int .u32, .int .u32, .int .u32, .int .u32, .int .u32, .int .u32]⟩), (84, ⟨.arr .u8 5 24, 24, 24, [.int .u8, .int .u8, .int .u8, .int .u8, .int .u8, .int .u8, .int .u8, .int .u8, .int .u8, .int .u8, .int .u8, .int .u8, .int .u8, .int .u8, .int .u8, .int .u8, .int .u8, .int .u8, .int .u8, .int .u8, .int .u8, .int .u8, .int .u8, .int .u8]⟩), (94, ⟨.int .i64, 1, 8, [.int .i64]⟩), (101, ⟨.arr .u64 61 20, 20, 160, [.int .u64, .int .u64, .int .u64, .int .u64, .int .u64, .int .u64, .int .u64, .int .u64, .int .u64, .int .u64, .int .u64, .int .u64, .int .u64, .int .u64, .int .u64, .int .u64, .int .u64, .int .u64, .int .u64, .int .u64]⟩), (102, ⟨.arr .u8 5 65, 65, 65, [.int .u8, .int .u8, .int .u8, .int .u8, .int .u8, .int .u8, .int .u8, .int .u8, .int .u8, .int .u8, .int .u8, .int .u8, .int .u8, .int .u8, .int .u8, .int .u8, .int .u8, .int .u8, .int .u8, .int .u8, .int .u8, .int .u8, .int .u8, .int .u8, .int .u8, .int .u8, .int .u8, .int .u8, .int .u8, .int .u8, .int .u8, .int .u8, .int .u8, .int .u8, .int .u8, .int .u8, .int .u8, .int .u8, .int .u8, .int .u8, .int .u8, .int .u8, .int .u8, .int .u8, .int .u8, .int .u8, .int .u8, .int .u8, .int .u8, .int .u8, .int .u8, .int .u8, .int .u8, .int .u8, .int .u8, .int .u8, .int .u8, .int .u8, .int .u8, .int .u8, .int .u8, .int .u8, .int .u8, .int .u8, .int .u8]⟩), (117, ⟨.struct [(0, 1), (1, 1)], 2, 2, [.int .u8, .int .u8]⟩), (118, ⟨.struct [(0, 1), (1, 1)], 2, 2, [.int .u8, .int .u8]⟩), (122, ⟨.struct [(0, 1)], 1, 16, [.str]⟩), (123, ⟨.struct [(0, 1)], 1, 16, [.str]⟩), (124, ⟨.arr .u8 5 32, 32, 32, [.int .u8, .int .u8, .int .u8, .int .u8, .int .u8, .int .u8, .int .u8, .int .u8, .int .u8, .int .u8, .int .u8, .int .u8, .int .u8, .int .u8, .int .u8, .int .u8, .int .u8, .int .u8, .int .u8, .int .u8, .int .u8, .int .u8, .int .u8, .int .u8, .int .u8, .int .u8, .int .u8, .int .u8, .int .u8, .int .u8, .int .u8, .int .u8]⟩), (125, ⟨.arr .u8 5 64, 64, 64, [.int .u8, .int .u8, .int .u8, .int .u8, .int .u8, .int .u8, .int .u8, .int .u8, .int .u8, .int .u8, .int .u8, .int .u8, .int .u8, .int .u8, .int .u8, .int .u8, .int .u8, .int .u8, .int .u8, .int .u8, .int .u8, .int .u8, .int .u8, .int .u8, .int .u8, .int .u8, .int .u8, .int .u8, .int .u8, .int .u8, .int .u8, .int .u8, .int .u8, .int .u8, .int .u8, .int .u8, .int .u8, .int .u8, .int .u8, .int .u8, .int .u8, .int .u8, .int .u8, .int .u8, .int .u8, .int .u8, .int .u8, .int .u8, .int .u8, .int .u8, .int .u8, .int .u8, .int .u8, .int .u8, .int .u8, .int .u8, .int .u8, .int .u8, .int .u8, .int .u8, .int .u8, .int .u8, .int .u8, .int .u8]⟩)]
def tab2 : List Int := [1, 10, 100, 1000, 10000, 100000, 1000000, 10000000, 100000000, 1000000000, 10000000000, 100000000000, 1000000000000, 10000000000000, 100000000000000, 1000000000000000, 10000000000000000, 100000000000000000, 1000000000000000000, 10000000000000000000]
noncomputable def EKs : EK := ⟨[(3, (.ints .i64)), (5, (.ints .u8)), (9, .strs), (55, (.ints .u32))], [(60, .u32, 8), (62, .u32, 64), (84, .u8, 24), (101, .u64, 20), (102, .u8, 65), (124, .u8, 32), (125, .u8, 64)], [(2, .u64, tab2)], [(1, true), (3, false), (4, false)]⟩
theorem tabs (Φ : FuncId → List DA → Option Sp) : TabOk Tryd.prog ⟨TIs, EKs, Φ⟩ := tab_ok (by kernel_rfl)
theorem snd {F : FnI} (hf : FnOk Tryd.prog F) (l : List (FuncId × (List DA → Option Sp))) (hl : Sound Tryd.prog EKs (tabF l)) {S : List DA → Option Sp} (h : ∀ args sp, S args = some sp → sp.pre = true → sp.mode = F.mode ∧ ∃ n, runF ⟨TIs, EKs, tabF l⟩ F n args = some (sp.res, sp.outs)) : Sound1 Tryd.prog EKs F.f S := sound1 (cx := ⟨TIs, EKs, tabF l⟩) (tabs _) (by kernel_rfl) hl hf h
theorem mix : Tryd.prog.follows .mixedOrders = true := by kernel_rfl
noncomputable def cxOf (l : List (FuncId × (List DA → Option Sp))) : Cx := ⟨TIs, EKs, tabF l⟩
noncomputable def F_laws_FnExactHashSum : FnI := ⟨3, bodyOf Tryd.f3, 15, [.tmp 2], [0, 2, 3, 4, 7, 14], fun  | _ => [], 0, .fresh⟩
theorem ok_laws_FnExactHashSum : FnOk Tryd.prog F_laws_FnExactHashSum := ⟨_, Tryd.func3, rfl, by kernel_rfl, by kernel_rfl, by kernel_rfl⟩
noncomputable def F_laws_FnHashSum : FnI := ⟨4, bodyOf Tryd.f4, 24, [.tmp 2], [0, 2, 3, 6], fun  | _ => [], 0, .fresh⟩
theorem ok_laws_FnHashSum : FnOk Tryd.prog F_laws_FnHashSum := ⟨_, Tryd.func4, rfl, by kernel_rfl, by kernel_rfl, by kernel_rfl⟩
noncomputable def F_laws_FnExactPlanWrite : FnI := ⟨5, bodyOf Tryd.f5, 27, [.tmp 2], [0, 1, 2, 3, 4, 5, 6, 11, 21, 26], fun  | _ => [], 0, .fresh⟩
theorem ok_laws_FnExactPlanWrite : FnOk Tryd.prog F_laws_FnExactPlanWrite := ⟨_, Tryd.func5, rfl, by kernel_rfl, by kernel_rfl, by kernel_rfl⟩
noncomputable def F_laws_FnExactPlanRead : FnI := ⟨6, bodyOf Tryd.f6, 66, [.tmp 2], [0, 2, 3, 4, 5, 6, 7, 8, 9, 10, 13, 32, 40, 43, 57, 62, 65], fun  | _ => [], 0, .fresh⟩
theorem ok_laws_FnExactPlanRead : FnOk Tryd.prog F_laws_FnExactPlanRead := ⟨_, Tryd.func6, rfl, by kernel_rfl, by kernel_rfl, by kernel_rfl⟩
noncomputable def F_spec_HashSum : FnI := ⟨7, bodyOf Tryd.f7, 6, [.tmp 2], [0, 2], fun  | _ => [], 0, .fresh⟩
theorem ok_spec_HashSum : FnOk Tryd.prog F_spec_HashSum := ⟨_, Tryd.func7, rfl, by kernel_rfl, by kernel_rfl, by kernel_rfl⟩
noncomputable def F_impl_HashSum : FnI := ⟨8, bodyOf Tryd.f8, 6, [.tmp 2], [0, 2], fun  | _ => [], 0, .fresh⟩
theorem ok_impl_HashSum : FnOk Tryd.prog F_impl_HashSum := ⟨_, Tryd.func8, rfl, by kernel_rfl, by kernel_rfl, by kernel_rfl⟩
noncomputable def F_spec_DrawHashSum : FnI := ⟨9, bodyOf Tryd.f9, 10, [.tmp 2], [0, 2], fun  | _ => [], 0, .fresh⟩
theorem ok_spec_DrawHashSum : FnOk Tryd.prog F_spec_DrawHashSum := ⟨_, Tryd.func9, rfl, by kernel_rfl, by kernel_rfl, by kernel_rfl⟩
noncomputable def F_laws_szPlan : FnI := ⟨10, bodyOf Tryd.f10, 18, [.tmp 4], [0, 1, 2, 4, 10, 16], fun  | _ => [], 0, .fresh⟩
theorem ok_laws_szPlan : FnOk Tryd.prog F_laws_szPlan := ⟨_, Tryd.func10, rfl, by kernel_rfl, by kernel_rfl, by kernel_rfl⟩
noncomputable def F_spec_PlanWrite : FnI := ⟨11, bodyOf Tryd.f11, 24, [.tmp 2], [0, 1, 2, 5], fun  | _ => [], 0, .fresh⟩
theorem ok_spec_PlanWrite : FnOk Tryd.prog F_spec_PlanWrite := ⟨_, Tryd.func11, rfl, by kernel_rfl, by kernel_rfl, by kernel_rfl⟩
noncomputable def F_laws_toPlan : FnI := ⟨12, bodyOf Tryd.f12, 19, [.cell 2 32], [0, 1, 2, 3], fun  | _ => [], 0, .mix [.own,.own]⟩
theorem ok_laws_toPlan : FnOk Tryd.prog F_laws_toPlan := ⟨_, Tryd.func12, rfl, by kernel_rfl, by kernel_rfl, by kernel_rfl⟩
noncomputable def F_impl_PlanWrite : FnI := ⟨13, bodyOf Tryd.f13, 24, [.tmp 2], [0, 1, 2, 5], fun  | _ => [], 0, .fresh⟩
theorem ok_impl_PlanWrite : FnOk Tryd.prog F_impl_PlanWrite := ⟨_, Tryd.func13, rfl, by kernel_rfl, by kernel_rfl, by kernel_rfl⟩
noncomputable def F_laws_eqPlan : FnI := ⟨14, bodyOf Tryd.f14, 27, [.tmp 4], [0, 1, 2, 3, 4, 9, 14, 20, 26], fun  | _ => [], 0, .fresh⟩
theorem ok_laws_eqPlan : FnOk Tryd.prog F_laws_eqPlan := ⟨_, Tryd.func14, rfl, by kernel_rfl, by kernel_rfl, by kernel_rfl⟩
noncomputable def F_spec_PlanRead : FnI := ⟨15, bodyOf Tryd.f15, 44, [.cell 2 32, .tmp 3], [0, 2, 3, 4, 5, 6, 11, 19, 41], fun  | _ => [], 0, .mix [.own,.own]⟩
theorem ok_spec_PlanRead : FnOk Tryd.prog F_spec_PlanRead := ⟨_, Tryd.func15, rfl, by kernel_rfl, by kernel_rfl, by kernel_rfl⟩
noncomputable def F_impl_PlanRead : FnI := ⟨16, bodyOf Tryd.f16, 50, [.cell 2 32, .tmp 3], [0, 2, 3, 4, 5, 6, 8, 13, 47], fun  | _ => [], 0, .mix [.own,.own]⟩
theorem ok_impl_PlanRead : FnOk Tryd.prog F_impl_PlanRead := ⟨_, Tryd.func16, rfl, by kernel_rfl, by kernel_rfl, by kernel_rfl⟩
noncomputable def F_laws_markPlan : FnI := ⟨17, bodyOf Tryd.f17, 14, [.tmp 4], [0, 1, 2, 4], fun  | _ => [], 0, .write⟩
theorem ok_laws_markPlan : FnOk Tryd.prog F_laws_markPlan := ⟨_, Tryd.func17, rfl, by kernel_rfl, by kernel_rfl, by kernel_rfl⟩
noncomputable def F_laws_heldPlan : FnI := ⟨18, bodyOf Tryd.f18, 18, [.tmp 4], [0, 1, 2, 4, 10, 16], fun  | _ => [], 0, .fresh⟩
theorem ok_laws_heldPlan : FnOk Tryd.prog F_laws_heldPlan := ⟨_, Tryd.func18, rfl, by kernel_rfl, by kernel_rfl, by kernel_rfl⟩
noncomputable def F_spec_l1Hex : FnI := ⟨19, bodyOf Tryd.f19, 27, [.tmp 2], [0, 2, 3, 4, 9], fun | 3 => [0, 3, 4] | _ => [], 0, .fresh⟩
theorem ok_spec_l1Hex : FnOk Tryd.prog F_spec_l1Hex := ⟨_, Tryd.func19, rfl, by kernel_rfl, by kernel_rfl, by kernel_rfl⟩
noncomputable def F_spec_l1Sum : FnI := ⟨20, bodyOf Tryd.f20, 57, [.tmp 2], [0, 2, 3, 4, 5, 6, 7, 14, 26], fun | 9 => [3, 6, 7] | 4 => [3, 4, 5] | _ => [], 0, .fresh⟩
theorem ok_spec_l1Sum : FnOk Tryd.prog F_spec_l1Sum := ⟨_, Tryd.func20, rfl, by kernel_rfl, by kernel_rfl, by kernel_rfl⟩
noncomputable def F_impl_hexOf : FnI := ⟨21, bodyOf Tryd.f21, 27, [.tmp 2], [0, 2, 3, 4, 9], fun | 3 => [0, 3, 4] | _ => [], 0, .fresh⟩
theorem ok_impl_hexOf : FnOk Tryd.prog F_impl_hexOf := ⟨_, Tryd.func21, rfl, by kernel_rfl, by kernel_rfl, by kernel_rfl⟩
noncomputable def F_impl_sha256Of : FnI := ⟨22, bodyOf Tryd.f22, 247, [.tmp 2], [0, 2, 3, 4, 5, 6, 7, 8, 9, 10, 11, 12, 13, 14, 15, 16, 17, 18, 20, 29, 38, 50, 54, 55, 58, 133, 134, 213, 214, 226, 227, 228], fun | 37 => [18, 226, 227] | 31 => [3, 4, 11, 213] | 23 => [3, 4, 7, 11, 133] | 14 => [3, 4, 7, 54] | 10 => [3, 4, 100004] | 7 => [3, 4, 5, 6] | 3 => [0, 3, 4] | _ => [], 0, .fresh⟩
theorem ok_impl_sha256Of : FnOk Tryd.prog F_impl_sha256Of := ⟨_, Tryd.func22, rfl, by kernel_rfl, by kernel_rfl, by kernel_rfl⟩
noncomputable def F_spec_l1Many : FnI := ⟨23, bodyOf Tryd.f23, 20, [.tmp 4], [0, 1, 4, 5, 7, 10], fun | 2 => [0, 1, 5] | _ => [], 0, .fresh⟩
theorem ok_spec_l1Many : FnOk Tryd.prog F_spec_l1Many := ⟨_, Tryd.func23, rfl, by kernel_rfl, by kernel_rfl, by kernel_rfl⟩
noncomputable def F_laws_szIntS : FnI := ⟨24, bodyOf Tryd.f24, 12, [.tmp 4], [0, 1, 4, 10], fun  | _ => [], 0, .fresh⟩
theorem ok_laws_szIntS : FnOk Tryd.prog F_laws_szIntS := ⟨_, Tryd.func24, rfl, by kernel_rfl, by kernel_rfl, by kernel_rfl⟩
noncomputable def F_spec_PlanOk : FnI := ⟨25, bodyOf Tryd.f25, 90, [.tmp 2], [0, 1, 2, 3, 35, 40, 78], fun | 4 => [1, 3] | _ => [], 0, .fresh⟩
theorem ok_spec_PlanOk : FnOk Tryd.prog F_spec_PlanOk := ⟨_, Tryd.func25, rfl, by kernel_rfl, by kernel_rfl, by kernel_rfl⟩
noncomputable def F_spec_l1Dec : FnI := ⟨26, bodyOf Tryd.f26, 28, [.tmp 2], [0, 2, 4, 6, 12], fun  | _ => [], 0, .fresh⟩
theorem ok_spec_l1Dec : FnOk Tryd.prog F_spec_l1Dec := ⟨_, Tryd.func26, rfl, by kernel_rfl, by kernel_rfl, by kernel_rfl⟩
noncomputable def F_spec_l1Dec1 : FnI := F_spec_l1Dec
theorem ok_spec_l1Dec1 : FnOk Tryd.prog F_spec_l1Dec1 := ok_spec_l1Dec
noncomputable def F_spec_l1Dec2 : FnI := F_spec_l1Dec
theorem ok_spec_l1Dec2 : FnOk Tryd.prog F_spec_l1Dec2 := ok_spec_l1Dec
noncomputable def F_spec_l5List : FnI := ⟨27, bodyOf Tryd.f27, 23, [.tmp 2], [0, 2, 3, 4, 8, 12], fun | 3 => [0, 3, 4] | _ => [], 0, .fresh⟩
theorem ok_spec_l5List : FnOk Tryd.prog F_spec_l5List := ⟨_, Tryd.func27, rfl, by kernel_rfl, by kernel_rfl, by kernel_rfl⟩
noncomputable def F_laws_toIntS : FnI := ⟨28, bodyOf Tryd.f28, 22, [.tmp 2], [0, 2, 3, 4, 11], fun | 3 => [0, 3, 4] | _ => [], 0, .mix [.own]⟩
theorem ok_laws_toIntS : FnOk Tryd.prog F_laws_toIntS := ⟨_, Tryd.func28, rfl, by kernel_rfl, by kernel_rfl, by kernel_rfl⟩
noncomputable def F_impl_PlanOk : FnI := ⟨29, bodyOf Tryd.f29, 84, [.tmp 2], [0, 1, 2, 3, 4, 19, 46, 48, 49, 50, 51, 82], fun | 6 => [1, 48, 49, 50] | _ => [], 0, .fresh⟩
theorem ok_impl_PlanOk : FnOk Tryd.prog F_impl_PlanOk := ⟨_, Tryd.func29, rfl, by kernel_rfl, by kernel_rfl, by kernel_rfl⟩
noncomputable def F_strconv_Itoa : FnI := ⟨30, bodyOf Tryd.f30, 5, [.tmp 2], [0, 2], fun  | _ => [], 0, .fresh⟩
theorem ok_strconv_Itoa : FnOk Tryd.prog F_strconv_Itoa := ⟨_, Tryd.func30, rfl, by kernel_rfl, by kernel_rfl, by kernel_rfl⟩
noncomputable def F_impl_listText : FnI := ⟨31, bodyOf Tryd.f31, 21, [.tmp 2], [0, 2, 3, 5, 7, 8, 9, 10], fun | 3 => [3, 7, 8, 9] | _ => [], 0, .fresh⟩
theorem ok_impl_listText : FnOk Tryd.prog F_impl_listText := ⟨_, Tryd.func31, rfl, by kernel_rfl, by kernel_rfl, by kernel_rfl⟩
noncomputable def F_laws_eqIntS : FnI := ⟨32, bodyOf Tryd.f32, 26, [.tmp 4], [0, 1, 4, 5, 10, 14, 25], fun | 4 => [0, 1, 5] | _ => [], 0, .fresh⟩
theorem ok_laws_eqIntS : FnOk Tryd.prog F_laws_eqIntS := ⟨_, Tryd.func32, rfl, by kernel_rfl, by kernel_rfl, by kernel_rfl⟩
noncomputable def F_spec_l5Cuts : FnI := ⟨33, bodyOf Tryd.f33, 35, [.tmp 4], [0, 1, 4, 5, 6, 7, 12, 19], fun | 4 => [0, 1, 5, 6, 7] | _ => [], 0, .mix [.own]⟩
theorem ok_spec_l5Cuts : FnOk Tryd.prog F_spec_l5Cuts := ⟨_, Tryd.func33, rfl, by kernel_rfl, by kernel_rfl, by kernel_rfl⟩
noncomputable def F_spec_l5Num : FnI := ⟨34, bodyOf Tryd.f34, 44, [.tmp 2], [0, 2, 3, 4, 18, 22, 34], fun | 5 => [0, 3, 4] | _ => [], 0, .fresh⟩
theorem ok_spec_l5Num : FnOk Tryd.prog F_spec_l5Num := ⟨_, Tryd.func34, rfl, by kernel_rfl, by kernel_rfl, by kernel_rfl⟩
noncomputable def F_spec_l5Nums : FnI := ⟨35, bodyOf Tryd.f35, 28, [.tmp 2], [0, 2, 3, 4, 5, 16], fun | 4 => [3, 4, 5] | _ => [], 0, .mix [.own]⟩
theorem ok_spec_l5Nums : FnOk Tryd.prog F_spec_l5Nums := ⟨_, Tryd.func35, rfl, by kernel_rfl, by kernel_rfl, by kernel_rfl⟩
noncomputable def F_strings_Split : FnI := ⟨36, bodyOf Tryd.f36, 8, [.tmp 4], [0, 1, 4], fun  | _ => [], 0, .fresh⟩
theorem ok_strings_Split : FnOk Tryd.prog F_strings_Split := ⟨_, Tryd.func36, rfl, by kernel_rfl, by kernel_rfl, by kernel_rfl⟩
noncomputable def F_strings_Cut : FnI := ⟨37, bodyOf Tryd.f37, 13, [.tmp 4, .tmp 5, .tmp 6], [0, 1, 4, 5, 6], fun  | _ => [], 0, .fresh⟩
theorem ok_strings_Cut : FnOk Tryd.prog F_strings_Cut := ⟨_, Tryd.func37, rfl, by kernel_rfl, by kernel_rfl, by kernel_rfl⟩
noncomputable def F_impl_listRead : FnI := ⟨38, bodyOf Tryd.f38, 27, [.tmp 2], [0, 2, 3, 5, 6, 10, 11, 12, 13], fun | 3 => [3, 10, 11, 12] | _ => [], 0, .mix [.own]⟩
theorem ok_impl_listRead : FnOk Tryd.prog F_impl_listRead := ⟨_, Tryd.func38, rfl, by kernel_rfl, by kernel_rfl, by kernel_rfl⟩
noncomputable def F_impl_number : FnI := ⟨39, bodyOf Tryd.f39, 29, [.tmp 2, .tmp 3], [0, 2, 3, 4, 5, 27], fun  | _ => [], 0, .fresh⟩
theorem ok_impl_number : FnOk Tryd.prog F_impl_number := ⟨_, Tryd.func39, rfl, by kernel_rfl, by kernel_rfl, by kernel_rfl⟩
noncomputable def F_laws_markIntS : FnI := ⟨40, bodyOf Tryd.f40, 19, [.tmp 4], [0, 1, 4, 5, 9], fun | 2 => [0, 1, 5] | _ => [], 0, .write⟩
theorem ok_laws_markIntS : FnOk Tryd.prog F_laws_markIntS := ⟨_, Tryd.func40, rfl, by kernel_rfl, by kernel_rfl, by kernel_rfl⟩
noncomputable def F_laws_heldIntS : FnI := ⟨41, bodyOf Tryd.f41, 21, [.tmp 4], [0, 1, 4, 5, 9, 17], fun | 2 => [0, 1, 5] | _ => [], 0, .fresh⟩
theorem ok_laws_heldIntS : FnOk Tryd.prog F_laws_heldIntS := ⟨_, Tryd.func41, rfl, by kernel_rfl, by kernel_rfl, by kernel_rfl⟩
noncomputable def F_spec_l1Padded : FnI := ⟨42, bodyOf Tryd.f42, 33, [.tmp 2], [0, 2, 3, 4, 5, 13, 21], fun | 6 => [3, 4, 5] | 2 => [0, 3] | _ => [], 0, .mix [.own]⟩
theorem ok_spec_l1Padded : FnOk Tryd.prog F_spec_l1Padded := ⟨_, Tryd.func42, rfl, by kernel_rfl, by kernel_rfl, by kernel_rfl⟩
noncomputable def F_spec_l1Block : FnI := ⟨43, bodyOf Tryd.f43, 155, [.tmp 4], [0, 1, 4, 5, 6, 7, 8, 9, 10, 11, 12, 13, 14, 15, 16, 24, 112, 139], fun | 20 => [0, 7, 15, 16] | 13 => [0, 5, 6, 7, 8, 11, 12, 13, 14] | 5 => [0, 5, 6, 7, 8] | _ => [], 0, .mix [.own]⟩
theorem ok_spec_l1Block : FnOk Tryd.prog F_spec_l1Block := ⟨_, Tryd.func43, rfl, by kernel_rfl, by kernel_rfl, by kernel_rfl⟩
noncomputable def F_impl_rolled : FnI := ⟨44, bodyOf Tryd.f44, 13, [.tmp 4], [0, 1, 4], fun  | _ => [], 0, .fresh⟩
theorem ok_impl_rolled : FnOk Tryd.prog F_impl_rolled := ⟨_, Tryd.func44, rfl, by kernel_rfl, by kernel_rfl, by kernel_rfl⟩
noncomputable def F_spec_l1In : FnI := ⟨45, bodyOf Tryd.f45, 15, [.tmp 6], [0, 1, 2, 6], fun  | _ => [], 0, .fresh⟩
theorem ok_spec_l1In : FnOk Tryd.prog F_spec_l1In := ⟨_, Tryd.func45, rfl, by kernel_rfl, by kernel_rfl, by kernel_rfl⟩
noncomputable def F_spec_l5Count : FnI := ⟨46, bodyOf Tryd.f46, 12, [.tmp 2], [0, 1, 2], fun  | _ => [], 0, .fresh⟩
theorem ok_spec_l5Count : FnOk Tryd.prog F_spec_l5Count := ⟨_, Tryd.func46, rfl, by kernel_rfl, by kernel_rfl, by kernel_rfl⟩
noncomputable def F_impl_within : FnI := ⟨47, bodyOf Tryd.f47, 15, [.tmp 6], [0, 1, 2, 6], fun  | _ => [], 0, .fresh⟩
theorem ok_impl_within : FnOk Tryd.prog F_impl_within := ⟨_, Tryd.func47, rfl, by kernel_rfl, by kernel_rfl, by kernel_rfl⟩
noncomputable def F_impl_Plan_count : FnI := ⟨48, bodyOf Tryd.f48, 12, [.tmp 2], [0, 1, 2], fun  | _ => [], 0, .fresh⟩
theorem ok_impl_Plan_count : FnOk Tryd.prog F_impl_Plan_count := ⟨_, Tryd.func48, rfl, by kernel_rfl, by kernel_rfl, by kernel_rfl⟩
noncomputable def F_strings_Join : FnI := ⟨50, bodyOf Tryd.f50, 75, [.tmp 4], [0, 1, 4, 5, 7, 8, 10, 12, 13, 15, 22, 29, 39, 40, 41, 42, 49, 63, 64, 65, 66], fun | 22 => [1, 8, 63, 64, 65] | 12 => [0, 1, 5, 39, 40, 41] | _ => [], 0, .fresh⟩
theorem ok_strings_Join : FnOk Tryd.prog F_strings_Join := ⟨_, Tryd.func50, rfl, by kernel_rfl, by kernel_rfl, by kernel_rfl⟩
noncomputable def F_strconv_Atoi : FnI := ⟨53, bodyOf Tryd.f53, 18, [.tmp 2, .tmp 3], [0, 2, 3, 4, 5, 12], fun  | _ => [], 0, .fresh⟩
theorem ok_strconv_Atoi : FnOk Tryd.prog F_strconv_Atoi := ⟨_, Tryd.func53, rfl, by kernel_rfl, by kernel_rfl, by kernel_rfl⟩
noncomputable def F_spec_l1Words : FnI := ⟨54, bodyOf Tryd.f54, 100, [.tmp 2], [0, 2, 3, 4, 5, 6, 7, 8, 9, 12, 52], fun | 7 => [3, 5] | 3 => [0, 3, 4] | _ => [], 0, .mix [.own]⟩
theorem ok_spec_l1Words : FnOk Tryd.prog F_spec_l1Words := ⟨_, Tryd.func54, rfl, by kernel_rfl, by kernel_rfl, by kernel_rfl⟩
noncomputable def F_spec_l1Consts : FnI := ⟨55, bodyOf Tryd.f55, 2, [.tmp 0], [0], fun  | _ => [], 0, .mix [.own]⟩
theorem ok_spec_l1Consts : FnOk Tryd.prog F_spec_l1Consts := ⟨_, Tryd.func55, rfl, by kernel_rfl, by kernel_rfl, by kernel_rfl⟩
noncomputable def F_spec_l1Turn : FnI := ⟨56, bodyOf Tryd.f56, 13, [.tmp 4], [0, 1, 4], fun  | _ => [], 0, .fresh⟩
theorem ok_spec_l1Turn : FnOk Tryd.prog F_spec_l1Turn := ⟨_, Tryd.func56, rfl, by kernel_rfl, by kernel_rfl, by kernel_rfl⟩

end Go.Proofs.YtbgheffgkncpgaaDoor.V
