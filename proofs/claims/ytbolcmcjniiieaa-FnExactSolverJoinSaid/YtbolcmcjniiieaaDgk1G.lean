/- What functions come to, and that they do so; conditions: those that each theorem states. -/
import Derived.Test.YtbolcmcjniiieaaDgk1
set_option linter.unusedVariables false
set_option linter.unusedSimpArgs false
namespace Go.Proofs.Ytbolcmcjniiieaa.V
open Go Vx Vx.N
abbrev laws_heldIntS_X2 := Int × Int × List Int
noncomputable def laws_heldIntS_s2 : laws_heldIntS_X2 → St | (i, k, a) => [(Loc.t 5, Ct.av (AV.v (V1.cell (Cell.sc (Value.int IntKind.i64 i))))), (Loc.t 1, Ct.av (AV.v (V1.cell (Cell.sc (Value.int IntKind.i64 k))))), (Loc.t 0, Ct.av (AV.v (V1.cell (Cell.ro false (Row.ints IntKind.i64 a)))))]
noncomputable def laws_heldIntS_T (k2 : laws_heldIntS_X2 → Rs) (a : List Int) (k : Int) : Rs := k2 (0, k, a)
noncomputable def laws_heldIntS_T2 (k2 : laws_heldIntS_X2 → Rs) : laws_heldIntS_X2 → Rs | (i, k, a) => cond (decide (i < (↑(List.length a) : Int))) (cond (decide (0 ≤ i)) (cond (decide (i < (↑(List.length a) : Int))) (cond (List.getD a (Int.toNat i) 0 != k) (some ([DA.c (SC.sc (Value.int IntKind.i64 (-1)))], [])) (k2 (IntKind.wrap IntKind.i64 (i + 1), IntKind.wrap IntKind.i64 (k + 1), a))) (none)) (none)) (some ([DA.c (SC.sc (Value.int IntKind.i64 k))], []))
theorem laws_heldIntS_e2 (N : Nat) (mo : Nat → Nat) (m : Nat) (x : laws_heldIntS_X2) : loopL (cxOf []) F_laws_heldIntS N mo 2 (m + 1) (laws_heldIntS_s2 x) = laws_heldIntS_T2 (fun x => loopL (cxOf []) F_laws_heldIntS N mo 2 m (laws_heldIntS_s2 x)) x := by
  obtain ⟨i, k, a⟩ := x
  kernel_rfl
noncomputable def laws_heldIntS_W2 (N : Nat) : Nat → laws_heldIntS_X2 → Rs := fixL (fun k => laws_heldIntS_T2 k)
theorem laws_heldIntS_w2 (N : Nat) (mo : Nat → Nat) (m : Nat) : (fun x => loopL (cxOf []) F_laws_heldIntS N mo 2 m (laws_heldIntS_s2 x)) = laws_heldIntS_W2 N m := fixL_eq (I := fun m x => loopL (cxOf []) F_laws_heldIntS N mo 2 m (laws_heldIntS_s2 x)) (T := fun k => laws_heldIntS_T2 k) (fun _ => rfl) (fun m x => laws_heldIntS_e2 N mo m x) m
theorem laws_heldIntS_run (N : Nat) (a : List Int) (k : Int) : runF (cxOf []) F_laws_heldIntS N [DA.c (SC.row (Row.ints IntKind.i64 a)), DA.c (SC.sc (Value.int IntKind.i64 k))] = laws_heldIntS_T (laws_heldIntS_W2 N N) a k := by rw [← laws_heldIntS_w2 N (fun _ => 0) N]; kernel_rfl
end Go.Proofs.Ytbolcmcjniiieaa.V
namespace Go.Proofs.Ytbolcmcjniiieaa.V
open Go Vx Vx.N
abbrev laws_markText_X4 := ByteArray × Int
noncomputable def laws_markText_s4 : laws_markText_X4 → St | (out, k) => [(Loc.t 3, Ct.av (AV.v (V1.cell (Cell.sc (Value.string out))))), (Loc.t 0, Ct.av (AV.v (V1.cell (Cell.sc (Value.int IntKind.i64 k)))))]
noncomputable def laws_markText_T (k4 : laws_markText_X4 → Rs) (k : Int) : Rs := cond (decide (k ≤ 0)) (some ([DA.c (SC.sc (Value.string { data := #[109, 48] }))], [])) (k4 ({ data := #[] }, k))
noncomputable def laws_markText_T4 (k4 : laws_markText_X4 → Rs) : laws_markText_X4 → Rs | (out, k) => cond (decide (k > 0)) (cond (decide (ByteArray.size (strOf [IntKind.wrap IntKind.u8 (IntKind.wrap IntKind.i64 (48 + Int.tmod k 10))]) + ByteArray.size out < 1099511627776)) (k4 (strOf [IntKind.wrap IntKind.u8 (IntKind.wrap IntKind.i64 (48 + Int.tmod k 10))] ++ out, IntKind.wrap IntKind.i64 (Int.tdiv k 10))) (none)) (cond (decide (ByteArray.size { data := #[109] } + ByteArray.size out < 1099511627776)) (some ([DA.c (SC.sc (Value.string ({ data := #[109] } ++ out)))], [])) (none))
theorem laws_markText_e4 (N : Nat) (mo : Nat → Nat) (m : Nat) (x : laws_markText_X4) : loopL (cxOf []) F_laws_markText N mo 4 (m + 1) (laws_markText_s4 x) = laws_markText_T4 (fun x => loopL (cxOf []) F_laws_markText N mo 4 m (laws_markText_s4 x)) x := by
  obtain ⟨out, k⟩ := x
  kernel_rfl
noncomputable def laws_markText_W4 (N : Nat) : Nat → laws_markText_X4 → Rs := fixL (fun k => laws_markText_T4 k)
theorem laws_markText_w4 (N : Nat) (mo : Nat → Nat) (m : Nat) : (fun x => loopL (cxOf []) F_laws_markText N mo 4 m (laws_markText_s4 x)) = laws_markText_W4 N m := fixL_eq (I := fun m x => loopL (cxOf []) F_laws_markText N mo 4 m (laws_markText_s4 x)) (T := fun k => laws_markText_T4 k) (fun _ => rfl) (fun m x => laws_markText_e4 N mo m x) m
theorem laws_markText_run (N : Nat) (k : Int) : runF (cxOf []) F_laws_markText N [DA.c (SC.sc (Value.int IntKind.i64 k))] = laws_markText_T (laws_markText_W4 N N) k := by rw [← laws_markText_w4 N (fun _ => 0) N]; kernel_rfl
end Go.Proofs.Ytbolcmcjniiieaa.V
namespace Go.Proofs.Ytbolcmcjniiieaa.V
open Go Vx Vx.N
abbrev laws_heldEqS_X2 := Int × Int × List (List Int × ByteArray)
noncomputable def laws_heldEqS_s2 : laws_heldEqS_X2 → St | (i, k, a) => [(Loc.t 5, Ct.av (AV.v (V1.cell (Cell.sc (Value.int IntKind.i64 i))))), (Loc.t 1, Ct.av (AV.v (V1.cell (Cell.sc (Value.int IntKind.i64 k))))), (Loc.t 0, Ct.av (AV.v (V1.cell (Cell.ro false (Row.eqs a)))))]
noncomputable def laws_heldEqS_T (k2 : laws_heldEqS_X2 → Rs) (a : List (List Int × ByteArray)) (k : Int) : Rs := k2 (0, k, a)
noncomputable def laws_heldEqS_T2 (k2 : laws_heldEqS_X2 → Rs) : laws_heldEqS_X2 → Rs | (i, k, a) => cond (decide (i < (↑(List.length a) : Int))) (cond (decide (0 ≤ i)) (cond (decide (i < (↑(List.length a) : Int))) (cond (sm (List.length (List.getD a (Int.toNat i) eqD).fst) && decide (0 ≤ k ∧ k < 10000000000)) (cond (decide (heldV (List.getD a (Int.toNat i) eqD).fst k < 0)) (some ([DA.c (SC.sc (Value.int IntKind.i64 (-1)))], [])) (cond (decide (0 ≤ i)) (cond (decide (i < (↑(List.length a) : Int))) (cond (decide (0 ≤ heldV (List.getD a (Int.toNat i) eqD).fst k ∧ heldV (List.getD a (Int.toNat i) eqD).fst k < 100000000000)) (cond (!ByteArray.toList (List.getD a (Int.toNat i) eqD).snd == ByteArray.toList (textK (heldV (List.getD a (Int.toNat i) eqD).fst k))) (some ([DA.c (SC.sc (Value.int IntKind.i64 (-1)))], [])) (k2 (IntKind.wrap IntKind.i64 (i + 1), IntKind.wrap IntKind.i64 (heldV (List.getD a (Int.toNat i) eqD).fst k + 1), a))) (none)) (none)) (none))) (none)) (none)) (none)) (some ([DA.c (SC.sc (Value.int IntKind.i64 k))], []))
theorem laws_heldEqS_e2 (N : Nat) (mo : Nat → Nat) (m : Nat) (x : laws_heldEqS_X2) : loopL (cxOf [(F_laws_heldIntS.f, S_laws_heldIntS), (F_laws_markText.f, S_laws_markText)]) F_laws_heldEqS N mo 2 (m + 1) (laws_heldEqS_s2 x) = laws_heldEqS_T2 (fun x => loopL (cxOf [(F_laws_heldIntS.f, S_laws_heldIntS), (F_laws_markText.f, S_laws_markText)]) F_laws_heldEqS N mo 2 m (laws_heldEqS_s2 x)) x := by
  obtain ⟨i, k, a⟩ := x
  kernel_rfl
noncomputable def laws_heldEqS_W2 (N : Nat) : Nat → laws_heldEqS_X2 → Rs := fixL (fun k => laws_heldEqS_T2 k)
theorem laws_heldEqS_w2 (N : Nat) (mo : Nat → Nat) (m : Nat) : (fun x => loopL (cxOf [(F_laws_heldIntS.f, S_laws_heldIntS), (F_laws_markText.f, S_laws_markText)]) F_laws_heldEqS N mo 2 m (laws_heldEqS_s2 x)) = laws_heldEqS_W2 N m := fixL_eq (I := fun m x => loopL (cxOf [(F_laws_heldIntS.f, S_laws_heldIntS), (F_laws_markText.f, S_laws_markText)]) F_laws_heldEqS N mo 2 m (laws_heldEqS_s2 x)) (T := fun k => laws_heldEqS_T2 k) (fun _ => rfl) (fun m x => laws_heldEqS_e2 N mo m x) m
theorem laws_heldEqS_run (N : Nat) (a : List (List Int × ByteArray)) (k : Int) : runF (cxOf [(F_laws_heldIntS.f, S_laws_heldIntS), (F_laws_markText.f, S_laws_markText)]) F_laws_heldEqS N [DA.c (SC.row (Row.eqs a)), DA.c (SC.sc (Value.int IntKind.i64 k))] = laws_heldEqS_T (laws_heldEqS_W2 N N) a k := by rw [← laws_heldEqS_w2 N (fun _ => 0) N]; kernel_rfl
end Go.Proofs.Ytbolcmcjniiieaa.V
namespace Go.Proofs.Ytbolcmcjniiieaa.V
open Go Vx Vx.N
noncomputable def laws_heldSolver_T (a_count : Int) (a_size : Int) (a_eqs : List (List Int × ByteArray)) (k : Int) : Rs := cond (mkOk a_eqs k) (cond (decide (heldE a_eqs k < 0)) (some ([DA.c (SC.sc (Value.int IntKind.i64 (-1)))], [])) (some ([DA.c (SC.sc (Value.int IntKind.i64 (heldE a_eqs k)))], []))) (none)
theorem laws_heldSolver_run (N : Nat) (a_count : Int) (a_size : Int) (a_eqs : List (List Int × ByteArray)) (k : Int) : runF (cxOf [(F_laws_heldEqS.f, S_laws_heldEqS)]) F_laws_heldSolver N [DA.agg [SC.sc (Value.int IntKind.i64 a_count), SC.sc (Value.int IntKind.i64 a_size), SC.row (Row.eqs a_eqs)], DA.c (SC.sc (Value.int IntKind.i64 k))] = laws_heldSolver_T  a_count a_size a_eqs k := by kernel_rfl
end Go.Proofs.Ytbolcmcjniiieaa.V
