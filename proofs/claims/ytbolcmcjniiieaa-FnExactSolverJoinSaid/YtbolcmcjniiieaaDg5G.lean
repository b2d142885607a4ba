/- What functions come to, and that they do so; conditions: those that each theorem states. -/
import Derived.Test.YtbolcmcjniiieaaDg5
set_option linter.unusedVariables false
set_option linter.unusedSimpArgs false
namespace Go.Proofs.Ytbolcmcjniiieaa.V
open Go Vx Vx.N
noncomputable def laws_szIntS_T (a : List Int) (left : Int) : Rs := cond (decide (IntKind.wrap IntKind.i64 (left - (↑(List.length a) : Int)) < 0)) (some ([DA.c (SC.sc (Value.int IntKind.i64 (-1)))], [])) (some ([DA.c (SC.sc (Value.int IntKind.i64 (IntKind.wrap IntKind.i64 (left - (↑(List.length a) : Int)))))], []))
theorem laws_szIntS_run (N : Nat) (a : List Int) (left : Int) : runF (cxOf []) F_laws_szIntS N [DA.c (SC.row (Row.ints IntKind.i64 a)), DA.c (SC.sc (Value.int IntKind.i64 left))] = laws_szIntS_T  a left := by kernel_rfl
end Go.Proofs.Ytbolcmcjniiieaa.V
namespace Go.Proofs.Ytbolcmcjniiieaa.V
open Go Vx Vx.N
noncomputable def laws_szEq_T (a_row : List Int) (a_data : ByteArray) (left : Int) : Rs := cond (leftOk left && lenOk (List.length a_row)) (cond (decide (szN left (List.length a_row) < 0)) (some ([DA.c (SC.sc (Value.int IntKind.i64 (-1)))], [])) (cond (decide (IntKind.wrap IntKind.i64 (szN left (List.length a_row) - (↑(ByteArray.size a_data) : Int)) < 0)) (some ([DA.c (SC.sc (Value.int IntKind.i64 (-1)))], [])) (some ([DA.c (SC.sc (Value.int IntKind.i64 (IntKind.wrap IntKind.i64 (szN left (List.length a_row) - (↑(ByteArray.size a_data) : Int)))))], [])))) (none)
theorem laws_szEq_run (N : Nat) (a_row : List Int) (a_data : ByteArray) (left : Int) : runF (cxOf [(F_laws_szIntS.f, S_laws_szIntS)]) F_laws_szEq N [DA.agg [SC.row (Row.ints IntKind.i64 a_row), SC.sc (Value.string a_data)], DA.c (SC.sc (Value.int IntKind.i64 left))] = laws_szEq_T  a_row a_data left := by kernel_rfl
end Go.Proofs.Ytbolcmcjniiieaa.V
namespace Go.Proofs.Ytbolcmcjniiieaa.V
open Go Vx Vx.N
abbrev laws_szEqS_X5 := Int × Int × List (List Int × ByteArray)
noncomputable def laws_szEqS_s5 : laws_szEqS_X5 → St | (i, left, a) => [(Loc.t 5, Ct.av (AV.v (V1.cell (Cell.sc (Value.int IntKind.i64 i))))), (Loc.t 1, Ct.av (AV.v (V1.cell (Cell.sc (Value.int IntKind.i64 left))))), (Loc.t 0, Ct.av (AV.v (V1.cell (Cell.ro false (Row.eqs a)))))]
noncomputable def laws_szEqS_T (k5 : laws_szEqS_X5 → Rs) (a : List (List Int × ByteArray)) (left : Int) : Rs := cond (decide (IntKind.wrap IntKind.i64 (left - (↑(List.length a) : Int)) < 0)) (some ([DA.c (SC.sc (Value.int IntKind.i64 (-1)))], [])) (k5 (0, IntKind.wrap IntKind.i64 (left - (↑(List.length a) : Int)), a))
noncomputable def laws_szEqS_T5 (k5 : laws_szEqS_X5 → Rs) : laws_szEqS_X5 → Rs | (i, left, a) => cond (decide (i < (↑(List.length a) : Int))) (cond (decide (0 ≤ i)) (cond (decide (i < (↑(List.length a) : Int))) (cond (leftOk left && lenE ((List.getD a (Int.toNat i) eqD).fst, (List.getD a (Int.toNat i) eqD).snd)) (cond (decide (szN left (szE1 ((List.getD a (Int.toNat i) eqD).fst, (List.getD a (Int.toNat i) eqD).snd)) < 0)) (some ([DA.c (SC.sc (Value.int IntKind.i64 (-1)))], [])) (k5 (IntKind.wrap IntKind.i64 (i + 1), szN left (szE1 ((List.getD a (Int.toNat i) eqD).fst, (List.getD a (Int.toNat i) eqD).snd)), a))) (none)) (none)) (none)) (some ([DA.c (SC.sc (Value.int IntKind.i64 left))], []))
theorem laws_szEqS_e5 (N : Nat) (mo : Nat → Nat) (m : Nat) (x : laws_szEqS_X5) : loopL (cxOf [(F_laws_szEq.f, S_laws_szEq)]) F_laws_szEqS N mo 5 (m + 1) (laws_szEqS_s5 x) = laws_szEqS_T5 (fun x => loopL (cxOf [(F_laws_szEq.f, S_laws_szEq)]) F_laws_szEqS N mo 5 m (laws_szEqS_s5 x)) x := by
  obtain ⟨i, left, a⟩ := x
  kernel_rfl
noncomputable def laws_szEqS_W5 (N : Nat) : Nat → laws_szEqS_X5 → Rs := fixL (fun k => laws_szEqS_T5 k)
theorem laws_szEqS_w5 (N : Nat) (mo : Nat → Nat) (m : Nat) : (fun x => loopL (cxOf [(F_laws_szEq.f, S_laws_szEq)]) F_laws_szEqS N mo 5 m (laws_szEqS_s5 x)) = laws_szEqS_W5 N m := fixL_eq (I := fun m x => loopL (cxOf [(F_laws_szEq.f, S_laws_szEq)]) F_laws_szEqS N mo 5 m (laws_szEqS_s5 x)) (T := fun k => laws_szEqS_T5 k) (fun _ => rfl) (fun m x => laws_szEqS_e5 N mo m x) m
theorem laws_szEqS_run (N : Nat) (a : List (List Int × ByteArray)) (left : Int) : runF (cxOf [(F_laws_szEq.f, S_laws_szEq)]) F_laws_szEqS N [DA.c (SC.row (Row.eqs a)), DA.c (SC.sc (Value.int IntKind.i64 left))] = laws_szEqS_T (laws_szEqS_W5 N N) a left := by rw [← laws_szEqS_w5 N (fun _ => 0) N]; kernel_rfl
end Go.Proofs.Ytbolcmcjniiieaa.V
namespace Go.Proofs.Ytbolcmcjniiieaa.V
open Go Vx Vx.N
noncomputable def laws_szSolver_T (a_count : Int) (a_size : Int) (a_eqs : List (List Int × ByteArray)) (left : Int) : Rs := cond (leftOk left && (lenOk (List.length a_eqs) && List.all a_eqs lenE)) (cond (decide (szN left (szE a_eqs) < 0)) (some ([DA.c (SC.sc (Value.int IntKind.i64 (-1)))], [])) (some ([DA.c (SC.sc (Value.int IntKind.i64 (szN left (szE a_eqs))))], []))) (none)
theorem laws_szSolver_run (N : Nat) (a_count : Int) (a_size : Int) (a_eqs : List (List Int × ByteArray)) (left : Int) : runF (cxOf [(F_laws_szEqS.f, S_laws_szEqS)]) F_laws_szSolver N [DA.agg [SC.sc (Value.int IntKind.i64 a_count), SC.sc (Value.int IntKind.i64 a_size), SC.row (Row.eqs a_eqs)], DA.c (SC.sc (Value.int IntKind.i64 left))] = laws_szSolver_T  a_count a_size a_eqs left := by kernel_rfl
end Go.Proofs.Ytbolcmcjniiieaa.V
namespace Go.Proofs.Ytbolcmcjniiieaa.V
open Go Vx Vx.N
abbrev laws_toIntS_X3 := Int × List Int × List Int
noncomputable def laws_toIntS_s3 : laws_toIntS_X3 → St | (i, a, r0) => [(Loc.t 4, Ct.av (AV.v (V1.cell (Cell.sc (Value.int IntKind.i64 i))))), (Loc.t 3, Ct.av (AV.v (V1.cell (Cell.ref 0)))), (Loc.t 0, Ct.av (AV.v (V1.cell (Cell.ro false (Row.ints IntKind.i64 a))))), (Loc.r 0, Ct.row true true (Row.ints IntKind.i64 r0))]
noncomputable def laws_toIntS_T (k3 : laws_toIntS_X3 → Rs) (a : List Int) : Rs := cond (decide ((↑(List.length a) : Int) = (↑(List.length a) : Int))) (cond (decide ((↑(List.length a) : Int) < (↑1099511627776 : Int))) (k3 (0, a, List.replicate (Int.toNat (↑(List.length a) : Int)) 0)) (none)) (none)
noncomputable def laws_toIntS_T3 (k3 : laws_toIntS_X3 → Rs) : laws_toIntS_X3 → Rs | (i, a, r0) => cond (decide (i < (↑(List.length a) : Int))) (cond (decide (0 ≤ i)) (cond (decide (i < (↑(List.length a) : Int))) (cond (decide (0 ≤ i)) (cond (decide (i < (↑(List.length r0) : Int))) (k3 (IntKind.wrap IntKind.i64 (i + 1), a, List.set r0 (Int.toNat i) (List.getD a (Int.toNat i) 0))) (none)) (none)) (none)) (none)) (some ([DA.c (SC.row (Row.ints IntKind.i64 r0))], []))
theorem laws_toIntS_e3 (N : Nat) (mo : Nat → Nat) (m : Nat) (x : laws_toIntS_X3) : loopL (cxOf []) F_laws_toIntS N mo 3 (m + 1) (laws_toIntS_s3 x) = laws_toIntS_T3 (fun x => loopL (cxOf []) F_laws_toIntS N mo 3 m (laws_toIntS_s3 x)) x := by
  obtain ⟨i, a, r0⟩ := x
  kernel_rfl
noncomputable def laws_toIntS_W3 (N : Nat) : Nat → laws_toIntS_X3 → Rs := fixL (fun k => laws_toIntS_T3 k)
theorem laws_toIntS_w3 (N : Nat) (mo : Nat → Nat) (m : Nat) : (fun x => loopL (cxOf []) F_laws_toIntS N mo 3 m (laws_toIntS_s3 x)) = laws_toIntS_W3 N m := fixL_eq (I := fun m x => loopL (cxOf []) F_laws_toIntS N mo 3 m (laws_toIntS_s3 x)) (T := fun k => laws_toIntS_T3 k) (fun _ => rfl) (fun m x => laws_toIntS_e3 N mo m x) m
theorem laws_toIntS_run (N : Nat) (a : List Int) : runF (cxOf []) F_laws_toIntS N [DA.c (SC.row (Row.ints IntKind.i64 a))] = laws_toIntS_T (laws_toIntS_W3 N N) a := by rw [← laws_toIntS_w3 N (fun _ => 0) N]; kernel_rfl
end Go.Proofs.Ytbolcmcjniiieaa.V
namespace Go.Proofs.Ytbolcmcjniiieaa.V
open Go Vx Vx.N
noncomputable def laws_toEq_T (a_row : List Int) (a_data : ByteArray) : Rs := cond (sm (List.length a_row)) (some ([DA.agg [SC.row (Row.ints IntKind.i64 a_row), SC.sc (Value.string a_data)]], [])) (none)
theorem laws_toEq_run (N : Nat) (a_row : List Int) (a_data : ByteArray) : runF (cxD [(F_laws_toIntS.f, S_laws_toIntS)]) F_laws_toEq N [DA.agg [SC.row (Row.ints IntKind.i64 a_row), SC.sc (Value.string a_data)]] = laws_toEq_T  a_row a_data := by kernel_rfl
end Go.Proofs.Ytbolcmcjniiieaa.V
namespace Go.Proofs.Ytbolcmcjniiieaa.V
open Go Vx Vx.N
abbrev laws_toEqS_X3 := Int × List (List Int × ByteArray) × List (List Int × ByteArray)
noncomputable def laws_toEqS_s3 : laws_toEqS_X3 → St | (i, a, r0) => [(Loc.t 4, Ct.av (AV.v (V1.cell (Cell.sc (Value.int IntKind.i64 i))))), (Loc.t 3, Ct.av (AV.v (V1.cell (Cell.ref 0)))), (Loc.t 0, Ct.av (AV.v (V1.cell (Cell.ro false (Row.eqs a))))), (Loc.r 0, Ct.row true true (Row.deqs r0))]
noncomputable def laws_toEqS_T (k3 : laws_toEqS_X3 → Rs) (a : List (List Int × ByteArray)) : Rs := cond (decide ((↑(List.length a) : Int) = (↑(List.length a) : Int))) (cond (decide ((↑(List.length a) : Int) < (↑1099511627776 : Int))) (k3 (0, a, List.replicate (Int.toNat (↑(List.length a) : Int)) eqD)) (none)) (none)
noncomputable def laws_toEqS_T3 (k3 : laws_toEqS_X3 → Rs) : laws_toEqS_X3 → Rs | (i, a, r0) => cond (decide (i < (↑(List.length a) : Int))) (cond (decide (0 ≤ i)) (cond (decide (i < (↑(List.length a) : Int))) (cond (sm (List.length (List.getD a (Int.toNat i) eqD).fst)) (cond (decide (0 ≤ i)) (cond (decide (i < (↑(List.length r0) : Int))) (k3 (IntKind.wrap IntKind.i64 (i + 1), a, List.set r0 (Int.toNat i) ((List.getD a (Int.toNat i) eqD).fst, (List.getD a (Int.toNat i) eqD).snd))) (none)) (none)) (none)) (none)) (none)) (some ([DA.c (SC.row (Row.deqs r0))], []))
theorem laws_toEqS_e3 (N : Nat) (mo : Nat → Nat) (m : Nat) (x : laws_toEqS_X3) : loopL (cxD [(F_laws_toEq.f, S_laws_toEq)]) F_laws_toEqS N mo 3 (m + 1) (laws_toEqS_s3 x) = laws_toEqS_T3 (fun x => loopL (cxD [(F_laws_toEq.f, S_laws_toEq)]) F_laws_toEqS N mo 3 m (laws_toEqS_s3 x)) x := by
  obtain ⟨i, a, r0⟩ := x
  kernel_rfl
noncomputable def laws_toEqS_W3 (N : Nat) : Nat → laws_toEqS_X3 → Rs := fixL (fun k => laws_toEqS_T3 k)
theorem laws_toEqS_w3 (N : Nat) (mo : Nat → Nat) (m : Nat) : (fun x => loopL (cxD [(F_laws_toEq.f, S_laws_toEq)]) F_laws_toEqS N mo 3 m (laws_toEqS_s3 x)) = laws_toEqS_W3 N m := fixL_eq (I := fun m x => loopL (cxD [(F_laws_toEq.f, S_laws_toEq)]) F_laws_toEqS N mo 3 m (laws_toEqS_s3 x)) (T := fun k => laws_toEqS_T3 k) (fun _ => rfl) (fun m x => laws_toEqS_e3 N mo m x) m
theorem laws_toEqS_run (N : Nat) (a : List (List Int × ByteArray)) : runF (cxD [(F_laws_toEq.f, S_laws_toEq)]) F_laws_toEqS N [DA.c (SC.row (Row.eqs a))] = laws_toEqS_T (laws_toEqS_W3 N N) a := by rw [← laws_toEqS_w3 N (fun _ => 0) N]; kernel_rfl
end Go.Proofs.Ytbolcmcjniiieaa.V
namespace Go.Proofs.Ytbolcmcjniiieaa.V
open Go Vx Vx.N
noncomputable def laws_toSolver_T (a_count : Int) (a_size : Int) (a_eqs : List (List Int × ByteArray)) : Rs := cond (smE a_eqs) (some ([DA.agg [SC.sc (Value.int IntKind.i64 a_count), SC.sc (Value.int IntKind.i64 a_size), SC.row (Row.deqs a_eqs)]], [])) (none)
theorem laws_toSolver_run (N : Nat) (a_count : Int) (a_size : Int) (a_eqs : List (List Int × ByteArray)) : runF (cxD [(F_laws_toEqS.f, S_laws_toEqS)]) F_laws_toSolver N [DA.agg [SC.sc (Value.int IntKind.i64 a_count), SC.sc (Value.int IntKind.i64 a_size), SC.row (Row.eqs a_eqs)]] = laws_toSolver_T  a_count a_size a_eqs := by kernel_rfl
end Go.Proofs.Ytbolcmcjniiieaa.V
namespace Go.Proofs.Ytbolcmcjniiieaa.V
open Go Vx Vx.N
abbrev laws_eqIntS_X4 := Int × List Int × List Int
noncomputable def laws_eqIntS_s4 : laws_eqIntS_X4 → St | (i, b, a) => [(Loc.t 5, Ct.av (AV.v (V1.cell (Cell.sc (Value.int IntKind.i64 i))))), (Loc.t 1, Ct.av (AV.v (V1.cell (Cell.ro false (Row.ints IntKind.i64 b))))), (Loc.t 0, Ct.av (AV.v (V1.cell (Cell.ro false (Row.ints IntKind.i64 a)))))]
noncomputable def laws_eqIntS_T (k4 : laws_eqIntS_X4 → Rs) (a : List Int) (b : List Int) : Rs := cond ((↑(List.length a) : Int) != (↑(List.length b) : Int)) (some ([DA.c (SC.sc (Value.bool false))], [])) (k4 (0, b, a))
noncomputable def laws_eqIntS_T4 (k4 : laws_eqIntS_X4 → Rs) : laws_eqIntS_X4 → Rs | (i, b, a) => cond (decide (i < (↑(List.length a) : Int))) (cond (decide (0 ≤ i)) (cond (decide (i < (↑(List.length a) : Int))) (cond (decide (0 ≤ i)) (cond (decide (i < (↑(List.length b) : Int))) (cond (List.getD a (Int.toNat i) 0 != List.getD b (Int.toNat i) 0) (some ([DA.c (SC.sc (Value.bool false))], [])) (k4 (IntKind.wrap IntKind.i64 (i + 1), b, a))) (none)) (none)) (none)) (none)) (some ([DA.c (SC.sc (Value.bool true))], []))
theorem laws_eqIntS_e4 (N : Nat) (mo : Nat → Nat) (m : Nat) (x : laws_eqIntS_X4) : loopL (cxOf []) F_laws_eqIntS N mo 4 (m + 1) (laws_eqIntS_s4 x) = laws_eqIntS_T4 (fun x => loopL (cxOf []) F_laws_eqIntS N mo 4 m (laws_eqIntS_s4 x)) x := by
  obtain ⟨i, b, a⟩ := x
  kernel_rfl
noncomputable def laws_eqIntS_W4 (N : Nat) : Nat → laws_eqIntS_X4 → Rs := fixL (fun k => laws_eqIntS_T4 k)
theorem laws_eqIntS_w4 (N : Nat) (mo : Nat → Nat) (m : Nat) : (fun x => loopL (cxOf []) F_laws_eqIntS N mo 4 m (laws_eqIntS_s4 x)) = laws_eqIntS_W4 N m := fixL_eq (I := fun m x => loopL (cxOf []) F_laws_eqIntS N mo 4 m (laws_eqIntS_s4 x)) (T := fun k => laws_eqIntS_T4 k) (fun _ => rfl) (fun m x => laws_eqIntS_e4 N mo m x) m
theorem laws_eqIntS_run (N : Nat) (a : List Int) (b : List Int) : runF (cxOf []) F_laws_eqIntS N [DA.c (SC.row (Row.ints IntKind.i64 a)), DA.c (SC.row (Row.ints IntKind.i64 b))] = laws_eqIntS_T (laws_eqIntS_W4 N N) a b := by rw [← laws_eqIntS_w4 N (fun _ => 0) N]; kernel_rfl
end Go.Proofs.Ytbolcmcjniiieaa.V
namespace Go.Proofs.Ytbolcmcjniiieaa.V
open Go Vx Vx.N
noncomputable def laws_eqEq_T (a_row : List Int) (a_data : ByteArray) (b_row : List Int) (b_data : ByteArray) : Rs := cond (sm (List.length a_row)) (cond (!decide (a_row = b_row)) (some ([DA.c (SC.sc (Value.bool false))], [])) (cond (!ByteArray.toList a_data == ByteArray.toList b_data) (some ([DA.c (SC.sc (Value.bool false))], [])) (some ([DA.c (SC.sc (Value.bool true))], [])))) (none)
theorem laws_eqEq_run (N : Nat) (a_row : List Int) (a_data : ByteArray) (b_row : List Int) (b_data : ByteArray) : runF (cxOf [(F_laws_eqIntS.f, S_laws_eqIntS)]) F_laws_eqEq N [DA.agg [SC.row (Row.ints IntKind.i64 a_row), SC.sc (Value.string a_data)], DA.agg [SC.row (Row.ints IntKind.i64 b_row), SC.sc (Value.string b_data)]] = laws_eqEq_T  a_row a_data b_row b_data := by kernel_rfl
end Go.Proofs.Ytbolcmcjniiieaa.V
namespace Go.Proofs.Ytbolcmcjniiieaa.V
open Go Vx Vx.N
abbrev laws_eqEqS_X4 := Int × List (List Int × ByteArray) × List (List Int × ByteArray)
noncomputable def laws_eqEqS_s4 : laws_eqEqS_X4 → St | (i, b, a) => [(Loc.t 5, Ct.av (AV.v (V1.cell (Cell.sc (Value.int IntKind.i64 i))))), (Loc.t 1, Ct.av (AV.v (V1.cell (Cell.ro false (Row.eqs b))))), (Loc.t 0, Ct.av (AV.v (V1.cell (Cell.ro false (Row.eqs a)))))]
noncomputable def laws_eqEqS_T (k4 : laws_eqEqS_X4 → Rs) (a : List (List Int × ByteArray)) (b : List (List Int × ByteArray)) : Rs := cond ((↑(List.length a) : Int) != (↑(List.length b) : Int)) (some ([DA.c (SC.sc (Value.bool false))], [])) (k4 (0, b, a))
noncomputable def laws_eqEqS_T4 (k4 : laws_eqEqS_X4 → Rs) : laws_eqEqS_X4 → Rs | (i, b, a) => cond (decide (i < (↑(List.length a) : Int))) (cond (decide (0 ≤ i)) (cond (decide (i < (↑(List.length a) : Int))) (cond (decide (0 ≤ i)) (cond (decide (i < (↑(List.length b) : Int))) (cond (sm (List.length (List.getD a (Int.toNat i) eqD).fst)) (cond (!decide (((List.getD a (Int.toNat i) eqD).fst, (List.getD a (Int.toNat i) eqD).snd) = ((List.getD b (Int.toNat i) eqD).fst, (List.getD b (Int.toNat i) eqD).snd))) (some ([DA.c (SC.sc (Value.bool false))], [])) (k4 (IntKind.wrap IntKind.i64 (i + 1), b, a))) (none)) (none)) (none)) (none)) (none)) (some ([DA.c (SC.sc (Value.bool true))], []))
theorem laws_eqEqS_e4 (N : Nat) (mo : Nat → Nat) (m : Nat) (x : laws_eqEqS_X4) : loopL (cxOf [(F_laws_eqEq.f, S_laws_eqEq)]) F_laws_eqEqS N mo 4 (m + 1) (laws_eqEqS_s4 x) = laws_eqEqS_T4 (fun x => loopL (cxOf [(F_laws_eqEq.f, S_laws_eqEq)]) F_laws_eqEqS N mo 4 m (laws_eqEqS_s4 x)) x := by
  obtain ⟨i, b, a⟩ := x
  kernel_rfl
noncomputable def laws_eqEqS_W4 (N : Nat) : Nat → laws_eqEqS_X4 → Rs := fixL (fun k => laws_eqEqS_T4 k)
theorem laws_eqEqS_w4 (N : Nat) (mo : Nat → Nat) (m : Nat) : (fun x => loopL (cxOf [(F_laws_eqEq.f, S_laws_eqEq)]) F_laws_eqEqS N mo 4 m (laws_eqEqS_s4 x)) = laws_eqEqS_W4 N m := fixL_eq (I := fun m x => loopL (cxOf [(F_laws_eqEq.f, S_laws_eqEq)]) F_laws_eqEqS N mo 4 m (laws_eqEqS_s4 x)) (T := fun k => laws_eqEqS_T4 k) (fun _ => rfl) (fun m x => laws_eqEqS_e4 N mo m x) m
theorem laws_eqEqS_run (N : Nat) (a : List (List Int × ByteArray)) (b : List (List Int × ByteArray)) : runF (cxOf [(F_laws_eqEq.f, S_laws_eqEq)]) F_laws_eqEqS N [DA.c (SC.row (Row.eqs a)), DA.c (SC.row (Row.eqs b))] = laws_eqEqS_T (laws_eqEqS_W4 N N) a b := by rw [← laws_eqEqS_w4 N (fun _ => 0) N]; kernel_rfl
end Go.Proofs.Ytbolcmcjniiieaa.V
namespace Go.Proofs.Ytbolcmcjniiieaa.V
open Go Vx Vx.N
noncomputable def laws_eqSolver_T (a_count : Int) (a_size : Int) (a_eqs : List (List Int × ByteArray)) (b_count : Int) (b_size : Int) (b_eqs : List (List Int × ByteArray)) : Rs := cond (a_count != b_count) (some ([DA.c (SC.sc (Value.bool false))], [])) (cond (a_size != b_size) (some ([DA.c (SC.sc (Value.bool false))], [])) (cond (smE a_eqs) (cond (!decide (a_eqs = b_eqs)) (some ([DA.c (SC.sc (Value.bool false))], [])) (some ([DA.c (SC.sc (Value.bool true))], []))) (none)))
theorem laws_eqSolver_run (N : Nat) (a_count : Int) (a_size : Int) (a_eqs : List (List Int × ByteArray)) (b_count : Int) (b_size : Int) (b_eqs : List (List Int × ByteArray)) : runF (cxOf [(F_laws_eqEqS.f, S_laws_eqEqS)]) F_laws_eqSolver N [DA.agg [SC.sc (Value.int IntKind.i64 a_count), SC.sc (Value.int IntKind.i64 a_size), SC.row (Row.eqs a_eqs)], DA.agg [SC.sc (Value.int IntKind.i64 b_count), SC.sc (Value.int IntKind.i64 b_size), SC.row (Row.eqs b_eqs)]] = laws_eqSolver_T  a_count a_size a_eqs b_count b_size b_eqs := by kernel_rfl
end Go.Proofs.Ytbolcmcjniiieaa.V
