/- What functions come to, and that they do so; conditions: those that each theorem states. -/
import Derived.Test.YtbolcmcjniiieaaKgK2a
import Derived.Lib.ConvBytes
import Derived.Lib.SlBytesRow
import Derived.WalkKit
import Derived.ProofKit
set_option linter.unusedVariables false
set_option linter.unusedSimpArgs false
namespace Go.Proofs.Ytbolcmcjniiieaa.V
open Go Vx Vx.N
/-! ### The program's xor: walked by hand -/
section
open Go.RowKit
/-- A fact that is set aside. -/
structure Aside0 (p : Prop) : Prop where mk :: (out : p)
theorem bA_get (a : ByteArray) (j : Nat) (h : j < a.size) : bA a j = a[j].toNat := by
  unfold bA
  have h' : j < a.data.toList.length := by simpa using h
  rw [List.getD_eq_getElem?_getD, List.getElem?_eq_getElem h']
  rfl
theorem xorG8 (a b : Nat) (ha : a < 256) (hb : b < 256) : Go.bits .xor .u8 (a : Int) (b : Int) = ((a ^^^ b : Nat) : Int) := by
  have hc : a ^^^ b < 2 ^ 8 := Nat.xor_lt_two_pow ha hb
  simp only [Go.bits, BitVec.ofInt_natCast, BitVec.toNat_xor, BitVec.toNat_ofNat]
  rw [Nat.mod_eq_of_lt (show a < 2 ^ IntKind.u8.bits from ha), Nat.mod_eq_of_lt (show b < 2 ^ IntKind.u8.bits from hb)]
  exact u8wrap (by omega) (by omega)
set_option maxHeartbeats 4000000 in
set_option maxRecDepth 100000 in
theorem xor_calls (a0 a1 r : ByteArray) (w : World) (hs : a0.size ≤ a1.size) (hm : a0.size ≤ 9223372036854775807) (hr : r = xorB a0 a1) : Calls Try.prog 64 #[.string a0, .string a1] w fun e w' => e = .returned (.string r) ∧ Below w.heap.size w w' := by
  subst hr
  have hconv := Go.Lib.run_convert_string_bytes (P := Try.prog) w 9 22 5 a0 Try.underlying9 Try.underlying22 Try.underlying5
  go_enter Try.func64, Try.ntmps64
  go_wp2
  have hcell : ∀ j, j < a0.size → (Go.Lib.bytesWorld w 5 a0).cell? ⟨w.heap.size, j, none⟩ = some (.int .u8 (bA a0 j)) := fun j hj => Go.Lib.bytesWorld_cell w 5 a0 j hj
  have hsz := Go.Lib.bytesWorld_size w 5 a0
  have hfrz : ∀ j, j < a0.size → (Go.Lib.bytesWorld w 5 a0).frozen? ⟨w.heap.size, j, none⟩ = false := fun j hj => by
    have hsz : (Go.Lib.bytesCells w 5 a0).size = a0.size + (grownCap w a0.size 0 5 - a0.size) := by
      unfold Go.Lib.bytesCells
      rw [Array.size_append, Array.size_map, Array.size_replicate]
      rfl
    simp only [World.frozen?, Go.Lib.bytesWorld_at_new]
    simp
    omega
  have hbel : Below w.heap.size w (Go.Lib.bytesWorld w 5 a0) := ⟨rfl, rfl, rfl, by rw [Go.Lib.bytesWorld_size]; omega, fun j hj => Go.Lib.bytesWorld_at_old w 5 a0 j hj⟩
  clear hconv
  generalize Go.Lib.bytesWorld w 5 a0 = wb at *
  generalize grownCap w a0.size 0 5 = cap at *
  have hfz : ∀ j, j < a0.size → wb.frozen? ⟨w.heap.size, j, none⟩ = false := hfrz
  clear hfrz
  go_loopg [6, 11] a0.size (fun q v6 v11 w' => ∃ k : Nat, v11 = .int .i64 (k : Int) ∧ k + q = a0.size ∧ (∀ j, j < a0.size → w'.cell? ⟨w.heap.size, j, none⟩ = some (.int .u8 ((if j < k then bA a0 j ^^^ bA a1 j else bA a0 j : Nat)))) ∧ (∀ j, j < a0.size → w'.frozen? ⟨w.heap.size, j, none⟩ = false) ∧ Aside0 (Below w.heap.size w w'))
  case atStart => exact ⟨0, rfl, by omega, fun j hj => by simpa using hcell j hj, hfz, ⟨hbel⟩⟩
  case round =>
    obtain ⟨k, rfl, hk, hC, hF, HB⟩ := hrel
    by_cases hlt : k < a0.size
    · have hd : decide ((k : Int) < (a0.size : Int)) = true := decide_eq_true (by omega)
      have hc1 := hC k hlt
      rw [if_neg (Nat.lt_irrefl _)] at hc1
      have hf1 := hF k hlt
      go_wp2
      have hk1 : k < a1.size := by omega
      go_region
      rw [← bA_get a1 k hk1, xorG8 _ _ (bA_lt _ _) (bA_lt _ _)]
      go_wp2
      cases gk with
      | zero => omega
      | succ q =>
        go_roundg q
        case measure => omega
        case rel =>
          refine ⟨k + 1, ?_, by omega, ?_, ?_, ⟨?_⟩⟩
          · congr 1
          · intro j hj
            rw [show ∀ (W : World) (p : Addr), W.drew.cell? p = W.cell? p from fun _ _ => rfl]
            by_cases e : j = k
            · subst e
              rw [if_pos (by omega)]
              exact World.cell?_setCell_same _ _ _ hc1
            · rw [World.cell?_setCell_other _ _ _ _ (fun h => e (by injection h with _ h2 _; exact h2.symm)), hC j hj]
              by_cases e2 : j < k
              · rw [if_pos e2, if_pos (by omega)]
              · rw [if_neg e2, if_neg (by omega)]
          · intro j hj
            exact (World.frozen?_setCell _ _ _ _).trans (hF j hj)
          · exact (HB.out.setCell (Nat.le_refl _) _).drew
    · have hd : decide ((k : Int) < (a0.size : Int)) = false := decide_eq_false (by omega)
      have hback : (convert 22 9 (.slice (some ⟨w.heap.size, 0, none⟩) a0.size cap)).run Try.prog wr = .ok (.string (xorB a0 a1)) wr := by
        have := Go.Lib.run_convert_whole (P := Try.prog) wr 22 5 9 Try.underlying22 Try.underlying5 Try.underlying9 w.heap.size 0 (xorB a0 a1) (fun i hi => by
          have hi' : i < a0.size := by rw [xorB_size _ _ hs] at hi; exact hi
          rw [Nat.zero_add, hC i hi', if_pos (by omega), ← bA_xorB a0 a1 i hi' hs, bA_get _ _ hi]) cap
        rw [xorB_size _ _ hs] at this
        exact this
      go_wp2
      go_ret
      exact ⟨rfl, HB.out⟩

/-- Of strings alone. -/
theorem below_chg {w w' : World} (h : Below w.heap.size w w') (X : Nat → Prop) : Chg X w w' := ⟨h.os, h.tape, h.output, h.size, fun j hj _ => h.block j hj⟩
noncomputable def S_impl_xor : List DA → Option Sp := S_spec_l2Block
theorem K_impl_xor : Sound1 Try.prog EKs F_impl_xor.f S_impl_xor := by
  intro f args sp hsp hpre
  unfold tabF alook at hsp
  cases hb : Nat.beq f F_impl_xor.f with
  | false => rw [hb] at hsp; cases hsp
  | true =>
    rw [hb] at hsp
    have he := Nat.eq_of_beq_eq_true hb
    subst he
    have hsp : S_impl_xor args = some sp := hsp
    unfold S_impl_xor S_spec_l2Block at hsp
    split at hsp
    · rename_i a b _
      cases hsp
      obtain ⟨hs, hm⟩ := of_decide_eq_true hpre
      refine ⟨⟨_, Try.func64, by kernel_rfl, by kernel_rfl⟩, fun _ w A B vals bs hargs hnd hA hBA _ => ?_, fun hg => by cases hg⟩
      cases hargs with
      | c h1 t1 => cases t1 with
        | c h2 t2 =>
          cases t2
          cases h1; cases h2
          refine (xor_calls a b _ w hs (by omega) rfl).mono fun e w' he => ?_
          obtain ⟨rfl, hbel⟩ := he
          exact ⟨_, rfl, below_chg hbel _, fun _ => False, fun j hj => hj.elim, .nil, [_], rfl, .cons rfl .nil⟩
    · cases hsp
end
end Go.Proofs.Ytbolcmcjniiieaa.V
