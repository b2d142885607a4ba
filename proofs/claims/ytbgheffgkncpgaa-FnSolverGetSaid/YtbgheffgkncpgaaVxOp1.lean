/- The operations, one by one: what the executor says of an operation, the model's run does. First part: operands, numbers, texts. Conditions: those that each theorem states. -/
import Derived.Test.YtbgheffgkncpgaaVxRel
import Derived.Tactics
import Derived.WalkKit
set_option linter.unusedVariables false
set_option linter.unusedSimpArgs false
namespace Vx
open Go Go.RowKit

theorem run_bind {α β : Type} (m : Rd α) (f : α → Rd β) (g : Loc → Ct) : (m.bind f).run g = (m.run g).bind fun x => (f x).run g := by
  induction m with
  | ret x => rfl
  | fail => rfl
  | ask l k ih => exact ih (g l)
  | br c t e iht ihe => cases c <;> simp only [Rd.bind, Rd.run, iht, ihe]
theorem run_bind_some {α β : Type} {m : Rd α} {f : α → Rd β} {g : Loc → Ct} {y : β} (h : (m.bind f).run g = some y) : ∃ x, m.run g = some x ∧ (f x).run g = some y := by
  rw [run_bind] at h
  exact Option.bind_eq_some_iff.1 h
theorem run_test {α : Type} {c : Bool} {m : Rd α} {g : Loc → Ct} {y : α} (h : (Rd.test c m).run g = some y) : c = true ∧ m.run g = some y := by
  cases c
  · simp [Rd.test, Rd.run] at h
  · exact ⟨rfl, h⟩
theorem run_ret {α : Type} {x y : α} {g : Loc → Ct} (h : (Rd.ret x).run g = some y) : x = y := Option.some.inj h
theorem run_ask {α : Type} {l : Loc} {k : Ct → Rd α} {g : Loc → Ct} {y : α} (h : (Rd.ask l k).run g = some y) : (k (g l)).run g = some y := h

section
variable {P : Program} {o : Oper} {a : Act} {w w' : World} {next : Act → World → Prop} {Q : Exit → Act → World → Prop} {v : Value}
theorem wp_value (hr : (execOp a.eval o).run P w = .ok (.value v) w') (h : next (a.put o.dst v) w') : o.wp P a w next Q := by
  unfold Oper.wp; rw [hr]; exact h
theorem wp_skip' (hr : (execOp a.eval o).run P w = .ok .skip w') (h : next (a.put o.dst undef) w') : o.wp P a w next Q := by
  unfold Oper.wp; rw [hr]; exact h
end
section
variable {F : Fr} {σ : St} {a : Act} {w : World} {g : Gm}
theorem avOf_ok (h : Sat F σ a w g) {t : Tmp} {x : AV} (hr : (avOf t).run (get σ) = some x) : AVRep g F.base w (a.eval (.tmp t)) x := by
  have hr' := run_ask hr
  split at hr'
  · rename_i y hy
    obtain rfl := run_ret hr'
    exact h.tmp t _ hy
  · cases hr'
theorem opv_ok (h : Sat F σ a w g) {x : Operand} {y : AV} (hr : (opv x).run (get σ) = some y) : AVRep g F.base w (a.eval x) y := by
  cases x with
  | tmp t => exact avOf_ok h hr
  | const v => cases v <;> first
    | (obtain rfl := run_ret hr; rfl)
    | cases hr
    | (rename_i q; cases q <;> first
        | (obtain rfl := run_ret hr; rfl)
        | cases hr)
  | global g => cases hr
  | func f => cases hr
theorem scal_ok (h : Sat F σ a w g) {x : Operand} {v : Value} (hr : (scal x).run (get σ) = some v) : a.eval x = v := by
  obtain ⟨y, hy, hr'⟩ := run_bind_some hr
  have := opv_ok h hy
  split at hr'
  · obtain rfl := run_ret hr'
    exact this
  · cases hr'
end
theorem run_binR {P : Program} {w : World} {op : BinOp} {t : TypeId} {ox oy : Operand} {x y v : Value} {G : Loc → Ct} (h : (binR op x y).run G = some v) :
    (do eqGuard op t ox oy x y; binOp op t x y : Sem Value).run P w = .ok v w := by
  unfold binR at h
  split at h
  · rename_i k a l b
    split at h <;> first
      | (obtain ⟨hc, h⟩ := run_test h; obtain ⟨hd, h⟩ := run_test h; obtain rfl := run_ret h; obtain rfl := IntKind.eqb_iff.1 hc
         simp only [Bool.not_eq_true', decide_eq_false_iff_not] at hd
         simp [eqGuard, binOp, Op.intDiv, hd]; done)
      | (obtain ⟨hc, h⟩ := run_test h; obtain rfl := run_ret h; obtain rfl := IntKind.eqb_iff.1 hc
         simp [eqGuard, binOp, Op.intArith, Op.intBits, Op.intCmp]; done)
      | (obtain ⟨hc, h⟩ := run_test h; obtain rfl := run_ret h
         simp only [decide_eq_true_eq] at hc
         simp [eqGuard, binOp, Op.shift, Int.not_lt.2 hc]; done)
      | cases h
  · rename_i a b
    split at h <;> first
      | (obtain ⟨hc, h⟩ := run_test h; obtain rfl := run_ret h
         simp only [decide_eq_true_eq] at hc
         have hm : ¬ IntKind.i64.max < ((a.size + b.size : Nat) : Int) := by
           have : IntKind.i64.max = 9223372036854775807 := by rfl
           omega
         have e : Op.stringOp .add a b = Pure.pure (.string (a ++ b)) := by
           unfold Op.stringOp
           exact if_neg hm
         simp [eqGuard, binOp, e]; done)
      | (obtain rfl := run_ret h; simp [eqGuard, binOp, Op.stringOp]; done)
      | cases h
  · cases h
theorem run_boolR {P : Program} {w : World} {op : BinOp} {t : TypeId} (ht : P.underlying t = some .bool) {ox oy : Operand} {x y v : Value} {m : Rd Value} (hm : boolR op x y = some m) {G : Loc → Ct} (h : m.run G = some v) :
    (do eqGuard op t ox oy x y; binOp op t x y : Sem Value).run P w = .ok v w := by
  unfold boolR at hm
  split at hm
  · rename_i a b
    cases hm
    have hd : Op.maxDepth = 9999 + 1 := rfl
    have he : (Op.equal t (.bool a) (.bool b)).run P w = .ok (a == b) w := by
      unfold Op.equal
      rw [hd]
      unfold Op.equalIn
      simp [run_underlying ht]
    split at h
    · obtain rfl := run_ret h
      simp [eqGuard, binOp, he]
    · obtain rfl := run_ret h
      simp [eqGuard, binOp, he]
    · cases h
  · cases hm
end Vx
