/- Loops of a function, each by its key; the rule for them. Conditions: those that each theorem states. -/
import Derived.Test.YtbgheffgkncpgaaVxTab
set_option linter.unusedVariables false
set_option linter.unusedSimpArgs false
namespace Vx
open Go

def hasKey (key : Nat) : Code → Bool
  | .seq a b => hasKey key a || hasKey key b
  | .cond _ a b => hasKey key a || hasKey key b
  | .block _ c => hasKey key c
  | .loop c => Nat.beq (keyOf c) key || hasKey key c
  | _ => false
def locate (key : Nat) : Code → Code
  | .seq a b => match hasKey key a with
    | true => locate key a
    | false => locate key b
  | .cond _ a b => match hasKey key a with
    | true => locate key a
    | false => locate key b
  | .block _ c => locate key c
  | .loop c => match Nat.beq (keyOf c) key with
    | true => c
    | false => locate key c
  | c => c
/-- What follows a loop. -/
def afterK {R : Type} (cx : Cx) (F : FnI) (n : Nat) (mo : Nat → Nat) (key : Nat) : Code → (St → Option R) → (Ex → St → Option R) → Ex → St → Option R
  | .seq a b, kn, kx => match hasKey key a with
    | true => afterK cx F n mo key a (fun σ' => cxK cx F n b σ' kn kx) kx
    | false => afterK cx F n mo key b kn kx
  | .cond _ a b, kn, kx => match hasKey key a with
    | true => afterK cx F n mo key a kn kx
    | false => afterK cx F n mo key b kn kx
  | .block id c, kn, kx => afterK cx F n mo key c kn fun e σ' => match e with
    | .exit i => match Nat.beq i id with
      | true => kn σ'
      | false => kx (.exit i) σ'
    | .ret => kx .ret σ'
  | .loop c, _, kx => match Nat.beq (keyOf c) key with
    | true => kx
    | false => afterK cx F n mo key c (fun σ' => match norm (F.live (keyOf c)) F.nb σ' with
      | some τ => iter (fun σ' k => cxK cx F n c σ' k kx) (F.live (keyOf c)) F.nb (mo (keyOf c)) τ
      | none => none) kx
  | _, _, kx => kx
abbrev Rs := Option (List DA × List (List SC))
def loopL (cx : Cx) (F : FnI) (n : Nat) (mo : Nat → Nat) (key : Nat) (m : Nat) (τ : St) : Rs :=
  iter (fun σ' k => cxK cx F n (locate key F.body) σ' k (afterK cx F n mo key F.body (finK cx F) (finX cx F))) (F.live key) F.nb m τ
def moSet (mo : Nat → Nat) (key m : Nat) : Nat → Nat := fun k => match Nat.beq k key with
  | true => m
  | false => mo k
def fixL {X R : Type} (T : (X → Option R) → X → Option R) : Nat → X → Option R
  | 0, _ => none
  | m + 1, x => T (fixL T m) x
theorem fixL_eq {X R : Type} {T : (X → Option R) → X → Option R} {I : Nat → X → Option R} (h0 : ∀ x, I 0 x = none) (h : ∀ m x, I (m + 1) x = T (I m) x) : ∀ m, I m = fixL T m := by
  intro m
  induction m with
  | zero => funext x; rw [h0]; rfl
  | succ m ih => funext x; rw [h, ih]; rfl
/-- The rule: what is left shrinks; what a turn says of what comes behind it. -/
theorem fixL_ok {X R : Type} {T : (X → Option R) → X → Option R} (Inv : X → Prop) (μ : X → Nat) (r : X → R)
    (h : ∀ x K, Inv x → (∀ y, Inv y → μ y < μ x → K y = some (r y)) → T K x = some (r x)) : ∀ (m : Nat) x, Inv x → μ x < m → fixL T m x = some (r x) := by
  intro m
  induction m with
  | zero => intro x _ hm; omega
  | succ m ih => exact fun x hi hm => h x _ hi fun y hy hlt => ih y hy (by omega)

/-! ### Functions, each by itself -/
def bodyOf (f : Func) : Code := match f.body with
  | some c => c
  | none => .skip
def tabF (l : List (FuncId × (List DA → Option Sp))) (f : FuncId) (args : List DA) : Option Sp := match alook l f with
  | some S => S args
  | none => none
def Sound1 (P : Program) (ek : List (TypeId × RK)) (f : FuncId) (S : List DA → Option Sp) : Prop := Sound P ek (tabF [(f, S)])
theorem tabF_nil (P : Program) (ek : List (TypeId × RK)) : Sound P ek (tabF []) := fun f args sp h => by cases h
theorem tabF_cons {P : Program} {ek : List (TypeId × RK)} {f : FuncId} {S : List DA → Option Sp} {l : List (FuncId × (List DA → Option Sp))} (h : Sound1 P ek f S) (hl : Sound P ek (tabF l)) : Sound P ek (tabF ((f, S) :: l)) := by
  intro f' args sp hsp hpre
  unfold tabF alook at hsp
  cases hb : Nat.beq f' f with
  | true =>
    rw [hb] at hsp
    exact h f' args sp (by unfold tabF alook; rw [hb]; exact hsp) hpre
  | false =>
    rw [hb] at hsp
    exact hl f' args sp hsp hpre
/-- A function by what the executor finds of it. -/
theorem sound1 {P : Program} {cx : Cx} (htab : TabOk P cx) (hmix : P.follows .mixedOrders = true) (hΦ : Sound P cx.ek cx.Φ) {fi : FnI} (hf : FnOk P fi) {S : List DA → Option Sp}
    (hS : ∀ args sp, S args = some sp → sp.pre = true → sp.mode = fi.mode ∧ ∃ n, runF cx fi n args = some (sp.res, sp.outs)) : Sound1 P cx.ek fi.f S := by
  intro f args sp hsp hpre
  unfold tabF alook at hsp
  cases hb : Nat.beq f fi.f with
  | false => rw [hb] at hsp; cases hsp
  | true =>
    rw [hb] at hsp
    have he := Nat.eq_of_beq_eq_true hb
    subst he
    have hsp : S args = some sp := hsp
    obtain ⟨hm, n, hn⟩ := hS args sp hsp hpre
    obtain ⟨fn, h1, h2, _, _, h5⟩ := hf.ex
    refine ⟨⟨fn, h1, by rw [h2]; rfl, h5⟩, fun _ w A vals bs hargs hnd hA => ?_, fun hg => by rw [hm, runF_give hn] at hg; cases hg⟩
    have := runF_ok htab hΦ hmix hf hn hargs hnd hA
    obtain ⟨p, r, o, m⟩ := sp
    simp only at hm hpre
    subst hm hpre
    exact this
end Vx
