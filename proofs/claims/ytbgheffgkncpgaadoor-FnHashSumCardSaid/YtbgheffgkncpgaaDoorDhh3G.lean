/- What functions come to, and that they do so; conditions: those that each theorem states. -/
import Derived.Test.YtbgheffgkncpgaaDoorDhh3
set_option linter.unusedVariables false
set_option linter.unusedSimpArgs false
namespace Go.Proofs.YtbgheffgkncpgaaDoor.V
open Go Vx Vx.N
noncomputable def spec_HashSum_T (text : ByteArray) : Rs := cond (decide (ByteArray.size text < 1000000000)) (cond (decide (ByteArray.size (sumS text) < 1000000000)) (some ([DA.c (SC.sc (Value.string (hexS (sumS text))))], [])) (none)) (none)
theorem spec_HashSum_run (N : Nat) (text : ByteArray) : runF (cxOf [(F_spec_l1Sum.f, S_spec_l1Sum), (F_spec_l1Hex.f, S_spec_l1Hex)]) F_spec_HashSum N [DA.c (SC.sc (Value.string text))] = spec_HashSum_T  text := by kernel_rfl
end Go.Proofs.YtbgheffgkncpgaaDoor.V
namespace Go.Proofs.YtbgheffgkncpgaaDoor.V
open Go Vx Vx.N
noncomputable def impl_HashSum_T (text : ByteArray) : Rs := cond (decide (ByteArray.size text < 1000000000)) (cond (decide (ByteArray.size (sumS text) < 1000000000)) (some ([DA.c (SC.sc (Value.string (hexS (sumS text))))], [])) (none)) (none)
theorem impl_HashSum_run (N : Nat) (text : ByteArray) : runF (cxOf [(F_impl_sha256Of.f, S_impl_sha256Of), (F_impl_hexOf.f, S_impl_hexOf)]) F_impl_HashSum N [DA.c (SC.sc (Value.string text))] = impl_HashSum_T  text := by kernel_rfl
end Go.Proofs.YtbgheffgkncpgaaDoor.V
namespace Go.Proofs.YtbgheffgkncpgaaDoor.V
open Go Vx Vx.N
abbrev spec_l1Many_X2 := ByteArray × Int × ByteArray
noncomputable def spec_l1Many_s2 : spec_l1Many_X2 → St | (out, n, s) => [(Loc.t 5, Ct.av (AV.v (V1.cell (Cell.sc (Value.string out))))), (Loc.t 1, Ct.av (AV.v (V1.cell (Cell.sc (Value.int IntKind.i64 n))))), (Loc.t 0, Ct.av (AV.v (V1.cell (Cell.sc (Value.string s)))))]
noncomputable def spec_l1Many_T (k2 : spec_l1Many_X2 → Rs) (s : ByteArray) (n : Int) : Rs := k2 ({ data := #[] }, n, s)
noncomputable def spec_l1Many_T2 (k2 : spec_l1Many_X2 → Rs) : spec_l1Many_X2 → Rs | (out, n, s) => cond (decide (n > 0)) (cond (Int.tmod n 2 == 1) (cond (decide (ByteArray.size out + ByteArray.size s < 1099511627776)) (cond (decide (ByteArray.size s + ByteArray.size s < 1099511627776)) (k2 (out ++ s, IntKind.wrap IntKind.i64 (Int.tdiv n 2), s ++ s)) (none)) (none)) (cond (decide (ByteArray.size s + ByteArray.size s < 1099511627776)) (k2 (out, IntKind.wrap IntKind.i64 (Int.tdiv n 2), s ++ s)) (none))) (some ([DA.c (SC.sc (Value.string out))], []))
theorem spec_l1Many_e2 (N : Nat) (mo : Nat → Nat) (m : Nat) (x : spec_l1Many_X2) : loopL (cxOf []) F_spec_l1Many N mo 2 (m + 1) (spec_l1Many_s2 x) = spec_l1Many_T2 (fun x => loopL (cxOf []) F_spec_l1Many N mo 2 m (spec_l1Many_s2 x)) x := by
  obtain ⟨out, n, s⟩ := x
  kernel_rfl
noncomputable def spec_l1Many_W2 (N : Nat) : Nat → spec_l1Many_X2 → Rs := fixL (fun k => spec_l1Many_T2 k)
theorem spec_l1Many_w2 (N : Nat) (mo : Nat → Nat) (m : Nat) : (fun x => loopL (cxOf []) F_spec_l1Many N mo 2 m (spec_l1Many_s2 x)) = spec_l1Many_W2 N m := fixL_eq (I := fun m x => loopL (cxOf []) F_spec_l1Many N mo 2 m (spec_l1Many_s2 x)) (T := fun k => spec_l1Many_T2 k) (fun _ => rfl) (fun m x => spec_l1Many_e2 N mo m x) m
theorem spec_l1Many_run (N : Nat) (s : ByteArray) (n : Int) : runF (cxOf []) F_spec_l1Many N [DA.c (SC.sc (Value.string s)), DA.c (SC.sc (Value.int IntKind.i64 n))] = spec_l1Many_T (spec_l1Many_W2 N N) s n := by rw [← spec_l1Many_w2 N (fun _ => 0) N]; kernel_rfl
end Go.Proofs.YtbgheffgkncpgaaDoor.V
namespace Go.Proofs.YtbgheffgkncpgaaDoor.V
open Go Vx Vx.N
noncomputable def spec_DrawHashSum_T (code : List Int) : Rs := cond (decide ((1 ≤ IntKind.wrap IntKind.i64 (1 + Int.tmod (↑(List.length code) : Int) 3) ∧ IntKind.wrap IntKind.i64 (1 + Int.tmod (↑(List.length code) : Int) 3) ≤ 3) ∧ ByteArray.size (strOf code) < 10000000)) (some ([DA.c (SC.sc (Value.string (manyD (strOf code) (IntKind.wrap IntKind.i64 (1 + Int.tmod (↑(List.length code) : Int) 3)))))], [])) (none)
theorem spec_DrawHashSum_run (N : Nat) (code : List Int) : runF (cxOf [(F_spec_l1Many.f, S_spec_l1Many)]) F_spec_DrawHashSum N [DA.c (SC.row (Row.ints IntKind.u8 code))] = spec_DrawHashSum_T  code := by kernel_rfl
end Go.Proofs.YtbgheffgkncpgaaDoor.V
