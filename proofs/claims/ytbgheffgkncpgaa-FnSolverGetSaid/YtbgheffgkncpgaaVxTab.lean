/- The tables of types, checked against a program. Conditions: those that each theorem states. -/
import Derived.Test.YtbgheffgkncpgaaVxFun
set_option linter.unusedVariables false
set_option linter.unusedSimpArgs false
namespace Vx
open Go Go.RowKit

def ikB (v : Value) (k : IntKind) : Bool := match v with
  | .int l n => IntKind.eqb l k && (match n with
    | .ofNat m => Nat.beq m 0
    | _ => false)
  | _ => false
def strB (v : Value) : Bool := match v with
  | .string s => Nat.beq s.data.size 0
  | _ => false
def nilB (v : Value) : Bool := match v with
  | .slice none 0 0 => true
  | _ => false
def zvB (v : Value) : ZC → Bool
  | .int k => ikB v k
  | .bool => match v with
    | .bool false => true
    | _ => false
  | .str => strB v
  | .nil _ => nilB v
theorem ikB_ok {v : Value} {k : IntKind} (h : ikB v k = true) : v = .int k 0 := by
  unfold ikB at h
  split at h
  · simp only [Bool.and_eq_true] at h
    obtain ⟨h1, h2⟩ := h
    have := IntKind.eqb_iff.1 h1
    subst this
    split at h2
    · have := Nat.eq_of_beq_eq_true h2
      subst this
      rfl
    · cases h2
  · cases h
theorem strB_ok {v : Value} (h : strB v = true) : v = .string ⟨#[]⟩ := by
  unfold strB at h
  split at h
  · rename_i s
    have := Nat.eq_of_beq_eq_true h
    have e : s.data = #[] := Array.eq_empty_of_size_eq_zero this
    cases s
    simp only at e
    rw [e]
  · cases h
theorem nilB_ok {v : Value} (h : nilB v = true) : v = .slice none 0 0 := by
  unfold nilB at h
  split at h
  · rfl
  · cases h
theorem zvB_ok {v : Value} {z : ZC} (h : zvB v z = true) : v = zval z := by
  cases z with
  | int k => exact ikB_ok h
  | bool =>
    simp only [zvB] at h
    split at h
    · rfl
    · cases h
  | str => exact strB_ok h
  | nil k => exact nilB_ok h
def all2B {α β : Type} (f : α → β → Bool) : List α → List β → Bool
  | [], [] => true
  | a :: as, b :: bs => f a b && all2B f as bs
  | _, _ => false
theorem all2B_ok {α β : Type} {f : α → β → Bool} : ∀ {as : List α} {bs : List β}, all2B f as bs = true → All2 (fun a b => f a b = true) as bs
  | [], [], _ => .nil
  | [], _ :: _, h => by cases h
  | _ :: _, [], h => by cases h
  | _ :: _, _ :: _, h => by
    simp only [all2B, Bool.and_eq_true] at h
    exact .cons h.1 (all2B_ok h.2)
theorem all2_map {α β : Type} {f : β → α} {as : List α} {bs : List β} (h : All2 (fun a b => a = f b) as bs) : as = bs.map f := by
  induction h with
  | nil => rfl
  | cons h _ ih => rw [List.map_cons, h, ih]
def fldB (P : Program) (f : Field) (p : Nat × Nat) : Bool := Nat.beq f.offset p.1 && (match P.info? f.type with
  | some i => Nat.beq i.size p.2
  | none => false)
def undB (P : Program) (t : TypeId) (k : TK) : Bool := match P.underlying t, k with
  | some (.int k), .int l => IntKind.eqb k l
  | some .bool, .bool => true
  | some .string, .str => true
  | some (.slice e), .slice e' => Nat.beq e e'
  | some (.struct fields), .struct fs => all2B (fldB P) fields.toList fs
  | _, _ => false
def tiB (P : Program) (p : TypeId × TI) : Bool := (match P.info? p.1 with
  | some i => Nat.beq i.size p.2.size && (Nat.beq i.bytes p.2.bytes && (match i.zero with
    | some z => all2B zvB z.cells.toList p.2.zc
    | none => false))
  | none => false) && undB P p.1 p.2.k
theorem tiB_ok {P : Program} {t : TypeId} {ti : TI} (h : tiB P (t, ti) = true) : TIok P t ti := by
  simp only [tiB, Bool.and_eq_true] at h
  obtain ⟨h1, h2⟩ := h
  constructor
  · split at h1
    · rename_i i hi
      simp only [Bool.and_eq_true] at h1
      obtain ⟨a, b, c⟩ := h1
      split at c
      · rename_i z hz
        exact ⟨i, z, hi, Nat.eq_of_beq_eq_true a, Nat.eq_of_beq_eq_true b, hz, all2_map ((all2B_ok c).imp fun _ _ h => zvB_ok h)⟩
      · cases c
    · cases h1
  · unfold undB at h2
    split at h2
    · rename_i hu hk
      rw [hk]
      have := IntKind.eqb_iff.1 h2
      subst this
      exact hu
    · rename_i hu hk; rw [hk]; exact hu
    · rename_i hu hk; rw [hk]; exact hu
    · rename_i hu hk
      rw [hk]
      have := Nat.eq_of_beq_eq_true h2
      subst this
      exact hu
    · rename_i fields fs hu hk
      rw [hk]
      refine ⟨fields, hu, (all2B_ok h2).imp fun f p h => ?_⟩
      simp only [fldB, Bool.and_eq_true] at h
      obtain ⟨a, b⟩ := h
      split at b
      · rename_i i hi
        exact ⟨Nat.eq_of_beq_eq_true a, i, hi, Nat.eq_of_beq_eq_true b⟩
      · cases b
    · cases h2
def kzB (k : RK) (l : List Value) : Bool := match k with
  | .ints k => all2B zvB l [.int k]
  | .strs => all2B zvB l [.str]
  | .eqs => all2B zvB l [.nil .strs, .str]
theorem kzB_ok {k : RK} {l : List Value} (h : kzB k l = true) : l = kzero k := by
  cases k with
  | ints k => exact all2_map (f := zval) ((all2B_ok h).imp fun _ _ h => zvB_ok h)
  | strs => exact all2_map (f := zval) ((all2B_ok h).imp fun _ _ h => zvB_ok h)
  | eqs => exact all2_map (f := zval) ((all2B_ok h).imp fun _ _ h => zvB_ok h)
def isS {α : Type} (x : Option α) (f : α → Bool) : Bool := match x with
  | some a => f a
  | none => false
theorem isS_ok {α : Type} {x : Option α} {f : α → Bool} (h : isS x f = true) : ∃ a, x = some a ∧ f a = true := by
  cases x with
  | none => cases h
  | some a => exact ⟨a, rfl, h⟩
def ekB (P : Program) (l : List (TypeId × RK)) (p : TypeId × RK) : Bool := isS (P.info? p.1) (fun i => Nat.beq i.size (kwd p.2) && (Nat.blt 0 i.bytes && (Nat.ble i.bytes 64 && isS i.zero fun z => kzB p.2 z.cells.toList))) && isS (ekOf l p.2) (Nat.beq p.1)
def nilsB (l : List (TypeId × RK)) (p : TypeId × TI) : Bool := p.2.zc.all fun
  | .nil k => (ekOf l k).isSome
  | _ => true
theorem alook_mem {β : Type} : ∀ {l : List (Nat × β)} {n : Nat} {x : β}, alook l n = some x → (n, x) ∈ l
  | [], _, _, h => by cases h
  | (m, y) :: l, n, x, h => by
    unfold alook at h
    split at h
    · rename_i hb
      have := Nat.eq_of_beq_eq_true hb
      subst this
      cases h
      exact List.mem_cons_self
    · exact List.mem_cons_of_mem _ (alook_mem h)
def tabB (P : Program) (ti : List (TypeId × TI)) (ek : List (TypeId × RK)) : Bool := ti.all (tiB P) && (ek.all (ekB P ek) && ti.all (nilsB ek))
theorem tab_ok {P : Program} {cx : Cx} (h : tabB P cx.ti cx.ek = true) : TabOk P cx := by
  simp only [tabB, Bool.and_eq_true, List.all_eq_true] at h
  obtain ⟨h1, h2, h3⟩ := h
  refine ⟨fun t x hx => tiB_ok (h1 _ (alook_mem hx)), fun e k hk => ?_, fun t x hx k hk => ?_⟩
  · have := h2 _ (alook_mem hk)
    simp only [ekB, Bool.and_eq_true] at this
    obtain ⟨a, b⟩ := this
    obtain ⟨i, hi, hi2⟩ := isS_ok a
    simp only [Bool.and_eq_true] at hi2
    obtain ⟨c1, c2, c3, c4⟩ := hi2
    obtain ⟨z, hz, hz2⟩ := isS_ok c4
    obtain ⟨e', he, he2⟩ := isS_ok b
    have := Nat.eq_of_beq_eq_true he2
    subst this
    exact ⟨⟨i, z, hi, Nat.eq_of_beq_eq_true c1, by simpa using c2, by simpa using c3, hz, kzB_ok hz2⟩, he⟩
  · have := h3 _ (alook_mem hx)
    simp only [nilsB, List.all_eq_true] at this
    exact this _ hk
end Vx
