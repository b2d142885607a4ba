/- The operations: reading of rows and boxes. Conditions: those that each theorem states. -/
import Derived.Test.YtbgheffgkncpgaaVxOp1
import Derived.Laws.BytesArg
import Derived.Laws.MakeOwn
import Derived.Laws.OwnMore
set_option linter.unusedVariables false
set_option linter.unusedSimpArgs false
namespace Vx
open Go Go.RowKit

def zval : ZC → Value
  | .int k => .int k 0
  | .bool => .bool false
  | .str => .string ⟨#[]⟩
  | .nil _ => .slice none 0 0
structure TIok (P : Program) (t : TypeId) (ti : TI) : Prop where
  inf : ∃ i z, P.info? t = some i ∧ i.size = ti.size ∧ i.bytes = ti.bytes ∧ i.zero = some z ∧ z.cells.toList = ti.zc.map zval
  und : match ti.k with
    | .int k => P.underlying t = some (.int k)
    | .bool => P.underlying t = some .bool
    | .str => P.underlying t = some .string
    | .slice e => P.underlying t = some (.slice e)
    | .struct fs => ∃ fields, P.underlying t = some (.struct fields) ∧ All2 (fun f p => f.offset = p.1 ∧ ∃ i, P.info? f.type = some i ∧ i.size = p.2) fields.toList fs
def kzero : RK → List Value
  | .ints k => [.int k 0]
  | .strs => [.string ⟨#[]⟩]
  | .eqs => [.slice none 0 0, .string ⟨#[]⟩]
def kwd : RK → Nat
  | .eqs => 2
  | _ => 1
structure EKok (P : Program) (e : TypeId) (k : RK) : Prop where
  inf : ∃ i z, P.info? e = some i ∧ i.size = kwd k ∧ 0 < i.bytes ∧ i.bytes ≤ 64 ∧ i.zero = some z ∧ z.cells.toList = kzero k
structure TabOk (P : Program) (cx : Cx) : Prop where
  ti : ∀ t x, alook cx.ti t = some x → TIok P t x
  ek : ∀ e k, alook cx.ek e = some k → EKok P e k ∧ ekOf cx.ek k = some e
  nil : ∀ t x, alook cx.ti t = some x → ∀ k, ZC.nil k ∈ x.zc → (ekOf cx.ek k).isSome = true
theorem run_tio {cx : Cx} {t : TypeId} {ti : TI} {G : Loc → Ct} (h : (cx.tio t).run G = some ti) : alook cx.ti t = some ti := by
  unfold Cx.tio at h
  split at h
  · rename_i x hx; rw [hx]; exact h
  · cases h
theorem run_eko {cx : Cx} {t : TypeId} {k : RK} {G : Loc → Ct} (h : (cx.eko t).run G = some k) : alook cx.ek t = some k := by
  unfold Cx.eko at h
  split at h
  · rename_i x hx; rw [hx]; exact h
  · cases h
theorem kwd_wd (d : Row) : kwd d.kind = d.wd := by cases d <;> rfl

/-- What is at hand of a row: its cells can be read. -/
def RowLook (w : World) (Pi : Nat → Prop) (u : Value) (d : Row) : Prop :=
  ∃ A cap, u = .slice A d.len cap ∧ d.len ≤ cap ∧ (0 < d.len → ∃ ad, A = some ad ∧ ∀ j c, d.flat[j]? = some c → ∃ x, w.cell? (ad.add j) = some x ∧ DRep w Pi x c)
theorem RowRep.look {w : World} {Pi : Nat → Prop} {u : Value} {d : Row} (h : RowRep w Pi u d) : RowLook w Pi u d := by
  obtain ⟨A, cap, h1, h2, h3⟩ := h
  exact ⟨A, cap, h1, h2, fun hl => let ⟨ad, ha, _, hc⟩ := h3 hl; ⟨ad, ha, hc⟩⟩
theorem add_add (ad : Addr) (m n : Nat) : (ad.add m).add n = ad.add (m + n) := by
  unfold Addr.add
  by_cases h1 : m = 0 <;> by_cases h2 : n = 0 <;> simp [h1, h2, Nat.add_assoc]
theorem flat_sub (d : Row) (lo hi : Nat) : (d.sub lo hi).flat = (d.flat.take (hi * d.wd)).drop (lo * d.wd) := by
  cases d with
  | ints k xs => simp [Row.sub, Row.flat, Row.wd, List.map_take, List.map_drop]
  | strs xs => simp [Row.sub, Row.flat, Row.wd, List.map_take, List.map_drop]
  | eqs xs =>
    simp only [Row.sub, Row.flat, Row.wd]
    have key : ∀ (xs : List (List Int × ByteArray)) (n : Nat), (xs.take n).flatMap (fun x => [DC.ir x.1, .sc (.string x.2)]) = (xs.flatMap fun x => [DC.ir x.1, .sc (.string x.2)]).take (n * 2) := by
      intro xs
      induction xs with
      | nil => intro n; simp
      | cons x xs ih => intro n; cases n with
        | zero => simp
        | succ n => simp only [List.take_succ_cons, List.flatMap_cons, ih, Nat.succ_mul]; rfl
    have key2 : ∀ (xs : List (List Int × ByteArray)) (n : Nat), (xs.drop n).flatMap (fun x => [DC.ir x.1, .sc (.string x.2)]) = (xs.flatMap fun x => [DC.ir x.1, .sc (.string x.2)]).drop (n * 2) := by
      intro xs
      induction xs with
      | nil => intro n; simp
      | cons x xs ih => intro n; cases n with
        | zero => simp
        | succ n => simp only [List.drop_succ_cons, List.flatMap_cons, ih, Nat.succ_mul]; rfl
    rw [key2, key]
theorem len_sub (d : Row) {lo hi : Nat} (h : hi ≤ d.len) : (d.sub lo hi).len = hi - lo := by
  cases d <;> simp [Row.sub, Row.len] at h ⊢ <;> omega
theorem wd_sub (d : Row) (lo hi : Nat) : (d.sub lo hi).wd = d.wd := by cases d <;> rfl
theorem kind_sub (d : Row) (lo hi : Nat) : (d.sub lo hi).kind = d.kind := by cases d <;> rfl
theorem RowLook.sub {w : World} {Pi : Nat → Prop} {A : Option Addr} {cap : Nat} {d : Row} (h : RowLook w Pi (.slice A d.len cap) d) {lo hi : Nat} (h1 : lo ≤ hi) (h2 : hi ≤ d.len) :
    RowLook w Pi (.slice (if cap = lo then A else A.map (·.add (lo * d.wd))) (hi - lo) (cap - lo)) (d.sub lo hi) := by
  obtain ⟨A', cap', e, hc, h3⟩ := h
  injection e with e1 e2 e3
  subst e1; subst e3
  refine ⟨_, _, by rw [len_sub d h2], by rw [len_sub d h2]; omega, fun hl => ?_⟩
  rw [len_sub d h2] at hl
  obtain ⟨ad, rfl, hcell⟩ := h3 (by omega)
  rw [if_neg (by omega)]
  refine ⟨ad.add (lo * d.wd), rfl, fun j c hj => ?_⟩
  rw [flat_sub, List.getElem?_drop, List.getElem?_take] at hj
  split at hj
  · rw [add_add]; exact hcell _ c hj
  · cases hj
/-- The cells of element e in the flat row. -/
theorem flat_cells (d : Row) {e : Nat} (he : e < d.len) (j : Nat) (hj : j < d.wd) : d.flat[e * d.wd + j]? = (d.cells e)[j]? := by
  cases d with
  | ints k xs =>
    have : j = 0 := by simp [Row.wd] at hj; exact hj
    subst this
    simp only [Row.len] at he
    simp [Row.flat, Row.cells, Row.wd, List.getD_eq_getElem?_getD, List.getElem?_eq_getElem he]
  | strs xs =>
    have : j = 0 := by simp [Row.wd] at hj; exact hj
    subst this
    simp only [Row.len] at he
    simp [Row.flat, Row.cells, Row.wd, List.getD_eq_getElem?_getD, List.getElem?_eq_getElem he]
  | eqs xs =>
    simp only [Row.len] at he
    simp only [Row.flat, Row.cells, Row.wd]
    induction xs generalizing e with
    | nil => simp at he
    | cons x xs ih =>
      cases e with
      | zero => simp only [Nat.zero_mul, Nat.zero_add, List.flatMap_cons, List.getD_cons_zero]; rw [List.getElem?_append_left (by simpa [Row.wd] using hj)]
      | succ e =>
        simp only [List.flatMap_cons, List.getD_cons_succ]
        rw [List.getElem?_append_right (by simp; omega)]
        have := ih (e := e) (by simpa using he) (by exact hj)
        rw [← this]
        congr 1
        simp only [List.length_cons, List.length_nil]
        omega
theorem cells_len (d : Row) (e : Nat) : (d.cells e).length = d.wd := by cases d <;> rfl

section
variable {F : Fr} {σ : St} {a : Act} {w : World} {g : Gm}
theorem Sat.rowLook (h : Sat F σ a w g) {i : Nat} {own fr : Bool} {d : Row} (hi : get σ (.r i) = .row own fr d) : RowLook w (PG g F.base fr) (g.rv i) d := by
  obtain ⟨h1, h2, h3⟩ := h.row i own fr d hi
  cases own with
  | true =>
    obtain ⟨⟨e, he, ho⟩, hb⟩ := h3
    have := (ho.row (Pk := fun _ => True) (fun _ _ => trivial) fun _ _ => trivial)
    obtain ⟨A, cap, e1, e2, e3⟩ := this
    refine ⟨A, cap, e1, e2, fun hl => ?_⟩
    obtain ⟨ad, ha, _, hc⟩ := e3 hl
    refine ⟨ad, ha, fun j c hj => ?_⟩
    obtain ⟨cs, ho1, ho2⟩ := ho
    obtain ⟨x, hx1, hx2⟩ := ho2 j c hj
    obtain ⟨y, hy1, hy2⟩ := hc j c hj
    have hb' : (g.rv i).ownBlock = some ad.block := by rw [e1, ha]; rfl
    have hx' := ho1.cells hb' j x hx1
    have hadd : (⟨ad.block, 0, none⟩ : Addr).add j = ad.add j := by
      rcases ho1.2 with ⟨h0, _⟩ | ⟨b', cap', cur, h0, _⟩
      · rw [h0] at hb'; cases hb'
      · rw [e1, ha] at h0; injection h0 with h0 _ _; injection h0 with h0; rw [h0]
    rw [hadd] at hx'
    exact ⟨x, hx', hx2⟩
  | false => exact RowRep.look h3
theorem rowR_ok (h : Sat F σ a w g) {x : AV} {u : Value} (hx : AVRep g F.base w u x) {d : Row} {fr : Bool} (hr : (rowR x).run (get σ) = some (d, fr)) : RowLook w (PG g F.base fr) u d := by
  unfold rowR at hr
  split at hr
  · have := run_ret hr
    cases this
    exact RowRep.look hx
  · rename_i i
    have hr' := run_ask hr
    split at hr'
    · rename_i own fr' d' hi
      have := run_ret hr'
      cases this
      have h1 := h.rowLook hi
      rw [← hx.2] at h1
      exact h1
    · cases hr'
  · rename_i i lo hi
    have hr' := run_ask hr
    split at hr'
    · rename_i own fr' d' hi'
      have := run_ret hr'
      cases this
      obtain ⟨hx1, hx2, hx3, A, len, cap, hx4, rfl⟩ := hx
      obtain ⟨_, ⟨hw, hl⟩, _⟩ := h.row i _ _ _ hi'
      have h1 := h.rowLook hi'
      rw [hx4] at h1
      have e : len = d'.len := by obtain ⟨_, _, e, _⟩ := h1; injection e with _ e _
      subst e
      rw [hw]
      exact h1.sub hx2 (by rw [← hl]; exact hx3)
    · cases hr'
  · cases hr
end
end Vx
