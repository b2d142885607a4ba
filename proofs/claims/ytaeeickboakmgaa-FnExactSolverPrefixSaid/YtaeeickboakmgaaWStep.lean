/- One walked operation in one row, and a run of operations that are passed over in one row. Plain theorems over the printed words. Conditions: those that each theorem states. -/
import Derived.Test.YtaeeickboakmgaaWLast
import Derived.Test.YtaeeickboakmgaaWTab
namespace Go.Proofs.YtaeeickboakmgaaW.PrintStep
open Go.RowKit Go.Proofs.YtaeeickboakmgaaW.PrintLast
variable {P : Program} {md : Region.Mode} {ops : Array Oper} {Q : Exit → Act → World → Prop} {S : World → Prop} {ds : List Nat}
/-- The bits of m, n of them. -/
def bv (n m : Nat) : Array Bool := ⟨(List.range n).map m.testBit⟩
theorem e0_ {α : Type} {x y : α} {l : List α} : (x :: l).set 0 y = y :: l := List.set_cons_zero
theorem eS_ {α : Type} {x y : α} {n : Nat} {l : List α} : (x :: l).set (n + 1) y = x :: l.set n y := List.set_cons_succ
theorem eA_ {α : Type} {l : List α} {i : Nat} {y : α} : l.toArray.setIfInBounds i y = (l.set i y).toArray := List.setIfInBounds_toArray l i y
theorem pu_ (i : Nat) (N : Option Tmp) (l' : Array Bool) {oi : Oper} {v : Value} {fuel : Nat} {l : Array Bool} {a : Act} {w : World} (hi : ops[i]? = some oi) (hN : oi.dst = N) (hc : anyB md ops l l' i = true)
    (hQ : ∀ c a w, Q (.panic c) (a.put oi.dst v) w → Q (.panic c) a w) (hw : Region.wanted oi (yielded ops a.tmps) = true) (hy : ∀ w, (execOp a.eval oi).run P w = .ok (.value v) w) {a' : Act} (ha : a.put N v = a')
    (h : wpAnyLast P md ops Q S ds fuel l' a' w) : wpAnyLast P md ops Q S ds (fuel + 1) l a w := pure_ l' hi hN hc hQ (Or.inl ⟨hw, hy⟩) ha h
theorem tk_ (i : Nat) (N : Option Tmp) (l' : Array Bool) {oi : Oper} {v : Value} {fuel : Nat} {l : Array Bool} {a : Act} {w : World} (hi : ops[i]? = some oi) (hN : oi.dst = N) (hc : takeB md ops ds l l' i = true)
    (hQ : ∀ c a w, Q (.panic c) (a.put oi.dst v) w → Q (.panic c) a w) (hw : Region.wanted oi (yielded ops a.tmps) = true) (hS : S w) (hy : ∀ w, S w → (execOp a.eval oi).run P w = .ok (.value v) w) {a' : Act} (ha : a.put N v = a')
    (h : wpAnyLast P md ops Q S ds fuel l' a' w) : wpAnyLast P md ops Q S ds (fuel + 1) l a w := take_ l' hi hN hc hQ (Or.inl ⟨hw, hy⟩) hS ha h
/-- The act with some destinations undefined. -/
def putU : Act → List Tmp → Act
  | a, [] => a
  | a, n :: r => putU (a.put (some n) undef) r
def skB (md : Region.Mode) (ops : Array Oper) : List Nat → Array Bool → Array Bool → Bool
  | [], l, l' => l == l'
  | i :: is, l, l' => anyB md ops l (l.setIfInBounds i true) i && skB md ops is (l.setIfInBounds i true) l'
def skT (T : Bool × List (List Nat × List Nat)) : List Nat → List Bool → List Bool → Bool
  | [], l, l' => l == l'
  | i :: is, l, l' => anyT T l (l.set i true) i && skT T is (l.set i true) l'
theorem skB_of {T : Bool × List (List Nat × List Nat)} (hT : rtab md ops = T) : ∀ {is : List Nat} {l l' : Array Bool}, skT T is l.toList l'.toList = true → skB md ops is l l' = true
  | [], l, l', h => by
    simp only [skT, skB, beq_iff_eq] at h ⊢
    exact Array.toList_inj.1 h
  | i :: is, l, l', h => by
    simp only [skT, skB, Bool.and_eq_true] at h ⊢
    refine ⟨any_of hT ?_, skB_of hT ?_⟩
    · rw [Array.toList_setIfInBounds]
      exact h.1
    · rw [Array.toList_setIfInBounds]
      exact h.2
def skW (ops : Array Oper) : List Nat → List Tmp → Act → Bool
  | [], [], _ => true
  | i :: is, n :: ns, a => (match ops[i]? with
    | some o => (o.dst == some n) && !Region.wanted o (yielded ops a.tmps)
    | none => false) && skW ops is ns (a.put (some n) undef)
  | _, _, _ => false
theorem sks_ {fuel : Nat} {w : World} (hQ : ∀ c (a : Act) (n : Tmp) v w, Q (.panic c) (a.put (some n) v) w → Q (.panic c) a w) : ∀ (is : List Nat) (ns : List Tmp) {l l' : Array Bool} {a : Act}, skB md ops is l l' = true → skW ops is ns a = true → wpAnyLast P md ops Q S ds fuel l' (putU a ns) w → wpAnyLast P md ops Q S ds (fuel + is.length) l a w
  | [], [], l, l', a, h1, h2, h => by
    simp only [skB, beq_iff_eq] at h1
    subst h1
    exact h
  | [], _ :: _, l, l', a, h1, h2, h => by simp [skW] at h2
  | _ :: _, [], l, l', a, h1, h2, h => by simp [skW] at h2
  | i :: is, n :: ns, l, l', a, h1, h2, h => by
    simp only [skB, skW, Bool.and_eq_true] at h1 h2
    cases hi : ops[i]? with
    | none => rw [hi] at h2; simp at h2
    | some o =>
      rw [hi] at h2
      simp only [Bool.and_eq_true, beq_iff_eq, Bool.not_eq_true'] at h2
      exact pure_ (N := some n) (v := undef) _ hi h2.1.1 h1.1 (by rw [h2.1.1]; exact fun c a w => hQ c a n undef w) (Or.inr ⟨h2.1.2, rfl⟩) rfl (sks_ hQ is ns h1.2 h2.2 h)
/-- Operations that are not wanted: passed over, all in one row. -/
theorem sk_ (m : Nat) (is : List Nat) (ns : List Tmp) (l' : Array Bool) {fuel : Nat} {l : Array Bool} {a a' : Act} {w : World} (hm : is.length = m) (h1 : skB md ops is l l' = true) (h2 : skW ops is ns a = true)
    (hQ : ∀ c (a : Act) (n : Tmp) v w, Q (.panic c) (a.put (some n) v) w → Q (.panic c) a w) (ha : putU a ns = a') (h : wpAnyLast P md ops Q S ds fuel l' a' w) : wpAnyLast P md ops Q S ds (fuel + m) l a w := by
  subst ha
  subst hm
  exact sks_ hQ is ns h1 h2 h
/-! A world that grew: nothing of it that stood before has turned. -/
class Grow (w W : World) : Prop where
  out : Below w.heap.size w W
open Go.Proofs.YtaeeickboakmgaaW.PrintWords
instance Grow.refl (w : World) : Grow w w := ⟨Below.refl _ _⟩
instance Grow.alloc {w W : World} [i : Grow w W] (o : Obj) : Grow w (W.alloc o) := ⟨below_alloc i.out o⟩
instance Grow.drew {w W : World} [i : Grow w W] : Grow w W.drew := ⟨i.out.drew⟩
instance Grow.drewN {w W : World} [i : Grow w W] (n : Nat) : Grow w (W.drewN n) := ⟨pw_below_drewN i.out n⟩
theorem gB {w W W' : World} (h : Below w.heap.size w W) [i : Grow W W'] : Below w.heap.size w W' := below_step h i.out
theorem gK {W W' : World} {g : Nat} {o : Obj} (h : W.heap[g]? = some o) [i : Grow W W'] : W'.heap[g]? = some o := blk_below h i.out
theorem gR {α : Type} {d : Kd α} {e : TypeId} {W W' : World} {base : Nat} {ok : Nat → Prop} {v : Value} {xs : List α} (h : d.R e W base ok v xs) [i : Grow W W'] : d.R e W' base ok v xs := Kd.R_below h i.out
theorem gC {α : Type} {d : Kd α} {W W' : World} {A : Option Addr} {n : Nat} {xs : List α} (h : d.C W A n xs) [i : Grow W W'] : d.C W' A n xs := Kd.C_below h i.out
def nthL : List Value → Nat → Option Value
  | [], _ => none
  | x :: _, 0 => some x
  | _ :: l, n + 1 => nthL l n
theorem nthL_eq : ∀ (l : List Value) (n : Nat), nthL l n = l[n]?
  | [], _ => by simp [nthL]
  | _ :: _, 0 => by simp [nthL]
  | _ :: l, n + 1 => by simp only [nthL, List.getElem?_cons_succ]; exact nthL_eq l n
theorem cz_ {w : World} {g : Nat} {t : TypeId} {cs : List Value} {v : Value} (h : w.heap[g]? = some (.cells ⟨cs⟩ t (0, 0))) (i : Nat) (e : nthL cs i = some v) : w.cell? ⟨g, i, none⟩ = some v := by
  rw [blk_cell h]
  exact (List.getElem?_toArray).trans ((nthL_eq cs i).symm.trans e)
theorem bI_ {α β : Type} {o : Option α} {f : α → Option β} {b : β} (h : o.bind f = some b) : ∃ a, o = some a ∧ f a = some b := Option.bind_eq_some_iff.mp h
abbrev bxE := @box_event
end Go.Proofs.YtaeeickboakmgaaW.PrintStep
