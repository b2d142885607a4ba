/- What functions come to, and that they do so; conditions: those that each theorem states. -/
import Derived.Test.YtaeeickboakmgaaDb2
set_option linter.unusedVariables false
set_option linter.unusedSimpArgs false
namespace Go.Proofs.Ytaeeickboakmgaa.V
open Go Vx Vx.N
noncomputable def spec_l1Open_T (code : List Int) : Rs := cond (decide ((↑(List.length code) : Int) > 2000)) (cond (decide (2000 ≤ (↑(List.length code) : Int))) (some ([DA.bx [SC.row (Row.ints IntKind.u8 (List.drop 0 (List.take 2000 code))), SC.sc (Value.int IntKind.i64 0)]], [])) (none)) (some ([DA.bx [SC.row (Row.ints IntKind.u8 code), SC.sc (Value.int IntKind.i64 0)]], []))
theorem spec_l1Open_run (N : Nat) (code : List Int) : runF (cxOf []) F_spec_l1Open N [DA.c (SC.row (Row.ints IntKind.u8 code))] = spec_l1Open_T  code := by kernel_rfl
end Go.Proofs.Ytaeeickboakmgaa.V
namespace Go.Proofs.Ytaeeickboakmgaa.V
open Go Vx Vx.N
abbrev spec_l15Row_X3 := Int × Int × List Int × Int × List Int
noncomputable def spec_l15Row_s3 : spec_l15Row_X3 → St | (i, count, b0_0, b0_1, r0) => [(Loc.t 6, Ct.av (AV.v (V1.cell (Cell.sc (Value.int IntKind.i64 i))))), (Loc.t 5, Ct.av (AV.v (V1.cell (Cell.ref 0)))), (Loc.t 1, Ct.av (AV.v (V1.cell (Cell.sc (Value.int IntKind.i64 count))))), (Loc.t 0, Ct.av (AV.bx 0 0)), (Loc.b 0, Ct.box [Cell.ro false (Row.ints IntKind.u8 b0_0), Cell.sc (Value.int IntKind.i64 b0_1)]), (Loc.r 0, Ct.row true true (Row.ints IntKind.i64 r0))]
noncomputable def spec_l15Row_T (k3 : spec_l15Row_X3 → Rs) (r_b : List Int) (r_p : Int) (count : Int) : Rs := k3 (0, count, r_b, r_p, [])
noncomputable def spec_l15Row_T3 (k3 : spec_l15Row_X3 → Rs) : spec_l15Row_X3 → Rs | (i, count, b0_0, b0_1, r0) => cond (decide (i < count)) (cond (rdOk b0_0 b0_1) (cond (pickV b0_0 b0_1 3 == 0) (cond (decide (List.length r0 + 1 < 1099511627776)) (k3 (IntKind.wrap IntKind.i64 (i + 1), count, b0_0, b0_1 + 1, r0 ++ [i])) (none)) (k3 (IntKind.wrap IntKind.i64 (i + 1), count, b0_0, b0_1 + 1, r0))) (none)) (some ([DA.c (SC.row (Row.ints IntKind.i64 r0))], [[SC.row (Row.ints IntKind.u8 b0_0), SC.sc (Value.int IntKind.i64 b0_1)]]))
theorem spec_l15Row_e3 (N : Nat) (mo : Nat → Nat) (m : Nat) (x : spec_l15Row_X3) : loopL (cxOf [(F_spec_l1Rd_pick.f, S_spec_l1Rd_pick)]) F_spec_l15Row N mo 3 (m + 1) (spec_l15Row_s3 x) = spec_l15Row_T3 (fun x => loopL (cxOf [(F_spec_l1Rd_pick.f, S_spec_l1Rd_pick)]) F_spec_l15Row N mo 3 m (spec_l15Row_s3 x)) x := by
  obtain ⟨i, count, b0_0, b0_1, r0⟩ := x
  kernel_rfl
noncomputable def spec_l15Row_W3 (N : Nat) : Nat → spec_l15Row_X3 → Rs := fixL (fun k => spec_l15Row_T3 k)
theorem spec_l15Row_w3 (N : Nat) (mo : Nat → Nat) (m : Nat) : (fun x => loopL (cxOf [(F_spec_l1Rd_pick.f, S_spec_l1Rd_pick)]) F_spec_l15Row N mo 3 m (spec_l15Row_s3 x)) = spec_l15Row_W3 N m := fixL_eq (I := fun m x => loopL (cxOf [(F_spec_l1Rd_pick.f, S_spec_l1Rd_pick)]) F_spec_l15Row N mo 3 m (spec_l15Row_s3 x)) (T := fun k => spec_l15Row_T3 k) (fun _ => rfl) (fun m x => spec_l15Row_e3 N mo m x) m
theorem spec_l15Row_run (N : Nat) (r_b : List Int) (r_p : Int) (count : Int) : runF (cxOf [(F_spec_l1Rd_pick.f, S_spec_l1Rd_pick)]) F_spec_l15Row N [DA.bx [SC.row (Row.ints IntKind.u8 r_b), SC.sc (Value.int IntKind.i64 r_p)], DA.c (SC.sc (Value.int IntKind.i64 count))] = spec_l15Row_T (spec_l15Row_W3 N N) r_b r_p count := by rw [← spec_l15Row_w3 N (fun _ => 0) N]; kernel_rfl
end Go.Proofs.Ytaeeickboakmgaa.V
namespace Go.Proofs.Ytaeeickboakmgaa.V
open Go Vx Vx.N
noncomputable def spec_l15BadRow_T (r_b : List Int) (r_p : Int) (count : Int) : Rs := cond (rdOk r_b r_p && (rdOk r_b (r_p + count) && decide (0 ≤ count ∧ count < 1000))) (cond (rdOk r_b (r_p + count)) (cond (pickV r_b (r_p + count) 16 == 0) (cond (decide (List.length (rowD r_b r_p (Int.toNat count)) + 1 < 1099511627776)) (some ([DA.c (SC.row (Row.ints IntKind.i64 (rowD r_b r_p (Int.toNat count) ++ [count])))], [[SC.row (Row.ints IntKind.u8 r_b), SC.sc (Value.int IntKind.i64 (r_p + count + 1))]])) (none)) (cond (pickV r_b (r_p + count) 16 == 1) (cond (decide (1 + List.length (rowD r_b r_p (Int.toNat count)) < 1099511627776)) (some ([DA.c (SC.row (Row.ints IntKind.i64 ([-1] ++ rowD r_b r_p (Int.toNat count))))], [[SC.row (Row.ints IntKind.u8 r_b), SC.sc (Value.int IntKind.i64 (r_p + count + 1))]])) (none)) (cond (pickV r_b (r_p + count) 16 == 2) (cond (decide (List.length (rowD r_b r_p (Int.toNat count)) + 1 < 1099511627776)) (some ([DA.c (SC.row (Row.ints IntKind.i64 (rowD r_b r_p (Int.toNat count) ++ [0])))], [[SC.row (Row.ints IntKind.u8 r_b), SC.sc (Value.int IntKind.i64 (r_p + count + 1))]])) (none)) (some ([DA.c (SC.row (Row.ints IntKind.i64 (rowD r_b r_p (Int.toNat count))))], [[SC.row (Row.ints IntKind.u8 r_b), SC.sc (Value.int IntKind.i64 (r_p + count + 1))]]))))) (none)) (none)
theorem spec_l15BadRow_run (N : Nat) (r_b : List Int) (r_p : Int) (count : Int) : runF (cxOf [(F_spec_l1Rd_pick.f, S_spec_l1Rd_pick), (F_spec_l15Row.f, S_spec_l15Row)]) F_spec_l15BadRow N [DA.bx [SC.row (Row.ints IntKind.u8 r_b), SC.sc (Value.int IntKind.i64 r_p)], DA.c (SC.sc (Value.int IntKind.i64 count))] = spec_l15BadRow_T  r_b r_p count := by kernel_rfl
end Go.Proofs.Ytaeeickboakmgaa.V
namespace Go.Proofs.Ytaeeickboakmgaa.V
open Go Vx Vx.N
abbrev spec_RowOk_X2 := Int × Int × List Int
noncomputable def spec_RowOk_s2 : spec_RowOk_X2 → St | (i, count, row) => [(Loc.t 5, Ct.av (AV.v (V1.cell (Cell.sc (Value.int IntKind.i64 i))))), (Loc.t 1, Ct.av (AV.v (V1.cell (Cell.sc (Value.int IntKind.i64 count))))), (Loc.t 0, Ct.av (AV.v (V1.cell (Cell.ro false (Row.ints IntKind.i64 row)))))]
noncomputable def spec_RowOk_T (k2 : spec_RowOk_X2 → Rs) (row : List Int) (count : Int) : Rs := k2 (0, count, row)
noncomputable def spec_RowOk_T2 (k2 : spec_RowOk_X2 → Rs) : spec_RowOk_X2 → Rs | (i, count, row) => cond (decide (i < (↑(List.length row) : Int))) (cond (decide (0 ≤ i)) (cond (decide (i < (↑(List.length row) : Int))) (cond (!inB (List.getD row (Int.toNat i) 0) 0 (IntKind.wrap IntKind.i64 (count - 1))) (some ([DA.c (SC.sc (Value.bool false))], [])) (cond (decide (i > 0)) (cond (decide (0 ≤ IntKind.wrap IntKind.i64 (i - 1))) (cond (decide (IntKind.wrap IntKind.i64 (i - 1) < (↑(List.length row) : Int))) (cond (decide (0 ≤ i)) (cond (decide (i < (↑(List.length row) : Int))) (cond (decide (List.getD row (Int.toNat (IntKind.wrap IntKind.i64 (i - 1))) 0 ≥ List.getD row (Int.toNat i) 0)) (some ([DA.c (SC.sc (Value.bool false))], [])) (k2 (IntKind.wrap IntKind.i64 (i + 1), count, row))) (none)) (none)) (none)) (none)) (k2 (IntKind.wrap IntKind.i64 (i + 1), count, row)))) (none)) (none)) (some ([DA.c (SC.sc (Value.bool (inB count 0 24)))], []))
theorem spec_RowOk_e2 (N : Nat) (mo : Nat → Nat) (m : Nat) (x : spec_RowOk_X2) : loopL (cxOf [(F_spec_l1In.f, S_spec_l1In)]) F_spec_RowOk N mo 2 (m + 1) (spec_RowOk_s2 x) = spec_RowOk_T2 (fun x => loopL (cxOf [(F_spec_l1In.f, S_spec_l1In)]) F_spec_RowOk N mo 2 m (spec_RowOk_s2 x)) x := by
  obtain ⟨i, count, row⟩ := x
  kernel_rfl
noncomputable def spec_RowOk_W2 (N : Nat) : Nat → spec_RowOk_X2 → Rs := fixL (fun k => spec_RowOk_T2 k)
theorem spec_RowOk_w2 (N : Nat) (mo : Nat → Nat) (m : Nat) : (fun x => loopL (cxOf [(F_spec_l1In.f, S_spec_l1In)]) F_spec_RowOk N mo 2 m (spec_RowOk_s2 x)) = spec_RowOk_W2 N m := fixL_eq (I := fun m x => loopL (cxOf [(F_spec_l1In.f, S_spec_l1In)]) F_spec_RowOk N mo 2 m (spec_RowOk_s2 x)) (T := fun k => spec_RowOk_T2 k) (fun _ => rfl) (fun m x => spec_RowOk_e2 N mo m x) m
theorem spec_RowOk_run (N : Nat) (row : List Int) (count : Int) : runF (cxOf [(F_spec_l1In.f, S_spec_l1In)]) F_spec_RowOk N [DA.c (SC.row (Row.ints IntKind.i64 row)), DA.c (SC.sc (Value.int IntKind.i64 count))] = spec_RowOk_T (spec_RowOk_W2 N N) row count := by rw [← spec_RowOk_w2 N (fun _ => 0) N]; kernel_rfl
end Go.Proofs.Ytaeeickboakmgaa.V
namespace Go.Proofs.Ytaeeickboakmgaa.V
open Go Vx Vx.N
abbrev impl_RowOk_X2 := Int × Int × List Int × Int × List Int
noncomputable def impl_RowOk_s2 : impl_RowOk_X2 → St | (t9, t8, t7, count, row) => [(Loc.t 9, Ct.av (AV.v (V1.cell (Cell.sc (Value.int IntKind.i64 t9))))), (Loc.t 8, Ct.av (AV.v (V1.cell (Cell.sc (Value.int IntKind.i64 t8))))), (Loc.t 7, Ct.av (AV.v (V1.cell (Cell.ro false (Row.ints IntKind.i64 t7))))), (Loc.t 1, Ct.av (AV.v (V1.cell (Cell.sc (Value.int IntKind.i64 count))))), (Loc.t 0, Ct.av (AV.v (V1.cell (Cell.ro false (Row.ints IntKind.i64 row)))))]
noncomputable def impl_RowOk_T (k2 : impl_RowOk_X2 → Rs) (row : List Int) (count : Int) : Rs := k2 (0, (↑(List.length row) : Int), row, count, row)
noncomputable def impl_RowOk_T2 (k2 : impl_RowOk_X2 → Rs) : impl_RowOk_X2 → Rs | (t9, t8, t7, count, row) => cond (decide (t9 < t8)) (cond (decide (0 ≤ t9)) (cond (decide (t9 < (↑(List.length t7) : Int))) (cond (!inB (List.getD t7 (Int.toNat t9) 0) 0 (IntKind.wrap IntKind.i64 (count - 1))) (some ([DA.c (SC.sc (Value.bool false))], [])) (cond (decide (t9 > 0)) (cond (decide (0 ≤ IntKind.wrap IntKind.i64 (t9 - 1))) (cond (decide (IntKind.wrap IntKind.i64 (t9 - 1) < (↑(List.length row) : Int))) (cond (decide (List.getD row (Int.toNat (IntKind.wrap IntKind.i64 (t9 - 1))) 0 ≥ List.getD t7 (Int.toNat t9) 0)) (some ([DA.c (SC.sc (Value.bool false))], [])) (k2 (IntKind.wrap IntKind.i64 (t9 + 1), t8, t7, count, row))) (none)) (none)) (k2 (IntKind.wrap IntKind.i64 (t9 + 1), t8, t7, count, row)))) (none)) (none)) (some ([DA.c (SC.sc (Value.bool (inB count 0 24)))], []))
theorem impl_RowOk_e2 (N : Nat) (mo : Nat → Nat) (m : Nat) (x : impl_RowOk_X2) : loopL (cxOf [(F_impl_within.f, S_impl_within)]) F_impl_RowOk N mo 2 (m + 1) (impl_RowOk_s2 x) = impl_RowOk_T2 (fun x => loopL (cxOf [(F_impl_within.f, S_impl_within)]) F_impl_RowOk N mo 2 m (impl_RowOk_s2 x)) x := by
  obtain ⟨t9, t8, t7, count, row⟩ := x
  kernel_rfl
noncomputable def impl_RowOk_W2 (N : Nat) : Nat → impl_RowOk_X2 → Rs := fixL (fun k => impl_RowOk_T2 k)
theorem impl_RowOk_w2 (N : Nat) (mo : Nat → Nat) (m : Nat) : (fun x => loopL (cxOf [(F_impl_within.f, S_impl_within)]) F_impl_RowOk N mo 2 m (impl_RowOk_s2 x)) = impl_RowOk_W2 N m := fixL_eq (I := fun m x => loopL (cxOf [(F_impl_within.f, S_impl_within)]) F_impl_RowOk N mo 2 m (impl_RowOk_s2 x)) (T := fun k => impl_RowOk_T2 k) (fun _ => rfl) (fun m x => impl_RowOk_e2 N mo m x) m
theorem impl_RowOk_run (N : Nat) (row : List Int) (count : Int) : runF (cxOf [(F_impl_within.f, S_impl_within)]) F_impl_RowOk N [DA.c (SC.row (Row.ints IntKind.i64 row)), DA.c (SC.sc (Value.int IntKind.i64 count))] = impl_RowOk_T (impl_RowOk_W2 N N) row count := by rw [← impl_RowOk_w2 N (fun _ => 0) N]; kernel_rfl
end Go.Proofs.Ytaeeickboakmgaa.V
namespace Go.Proofs.Ytaeeickboakmgaa.V
open Go Vx Vx.N
abbrev spec_l1Many_X2 := ByteArray × Int × ByteArray
noncomputable def spec_l1Many_s2 : spec_l1Many_X2 → St | (out, n, s) => [(Loc.t 5, Ct.av (AV.v (V1.cell (Cell.sc (Value.string out))))), (Loc.t 1, Ct.av (AV.v (V1.cell (Cell.sc (Value.int IntKind.i64 n))))), (Loc.t 0, Ct.av (AV.v (V1.cell (Cell.sc (Value.string s)))))]
noncomputable def spec_l1Many_T (k2 : spec_l1Many_X2 → Rs) (s : ByteArray) (n : Int) : Rs := k2 ({ data := #[] }, n, s)
noncomputable def spec_l1Many_T2 (k2 : spec_l1Many_X2 → Rs) : spec_l1Many_X2 → Rs | (out, n, s) => cond (decide (n > 0)) (cond (Int.tmod n 2 == 1) (cond (decide (ByteArray.size out + ByteArray.size s < 1099511627776)) (cond (decide (ByteArray.size s + ByteArray.size s < 1099511627776)) (k2 (out ++ s, IntKind.wrap IntKind.i64 (Int.tdiv n 2), s ++ s)) (none)) (none)) (cond (decide (ByteArray.size s + ByteArray.size s < 1099511627776)) (k2 (out, IntKind.wrap IntKind.i64 (Int.tdiv n 2), s ++ s)) (none))) (some ([DA.c (SC.sc (Value.string out))], []))
theorem spec_l1Many_e2 (N : Nat) (mo : Nat → Nat) (m : Nat) (x : spec_l1Many_X2) : loopL (cxOf []) F_spec_l1Many N mo 2 (m + 1) (spec_l1Many_s2 x) = spec_l1Many_T2 (fun x => loopL (cxOf []) F_spec_l1Many N mo 2 m (spec_l1Many_s2 x)) x := by
  obtain ⟨out, n, s⟩ := x
  kernel_rfl
noncomputable def spec_l1Many_W2 (N : Nat) : Nat → spec_l1Many_X2 → Rs := fixL (fun k => spec_l1Many_T2 k)
theorem spec_l1Many_w2 (N : Nat) (mo : Nat → Nat) (m : Nat) : (fun x => loopL (cxOf []) F_spec_l1Many N mo 2 m (spec_l1Many_s2 x)) = spec_l1Many_W2 N m := fixL_eq (I := fun m x => loopL (cxOf []) F_spec_l1Many N mo 2 m (spec_l1Many_s2 x)) (T := fun k => spec_l1Many_T2 k) (fun _ => rfl) (fun m x => spec_l1Many_e2 N mo m x) m
theorem spec_l1Many_run (N : Nat) (s : ByteArray) (n : Int) : runF (cxOf []) F_spec_l1Many N [DA.c (SC.sc (Value.string s)), DA.c (SC.sc (Value.int IntKind.i64 n))] = spec_l1Many_T (spec_l1Many_W2 N N) s n := by rw [← spec_l1Many_w2 N (fun _ => 0) N]; kernel_rfl
end Go.Proofs.Ytaeeickboakmgaa.V
namespace Go.Proofs.Ytaeeickboakmgaa.V
open Go Vx Vx.N
noncomputable def spec_l3Zero_T (size : Int) : Rs := cond (decide ((strOf [0]).data.toList = [0] ∧ 0 ≤ size ∧ size < 100000000)) (some ([DA.c (SC.sc (Value.string (zerosB (Int.toNat size))))], [])) (none)
theorem spec_l3Zero_run (N : Nat) (size : Int) : runF (cxOf [(F_spec_l1Many.f, S_spec_l1Many)]) F_spec_l3Zero N [DA.c (SC.sc (Value.int IntKind.i64 size))] = spec_l3Zero_T  size := by kernel_rfl
end Go.Proofs.Ytaeeickboakmgaa.V
