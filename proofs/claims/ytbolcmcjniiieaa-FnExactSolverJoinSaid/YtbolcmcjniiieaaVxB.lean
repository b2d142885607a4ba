/- The operations, one by one: what the executor says of an operation, the model's run does. First part: operands, numbers, texts. Conditions: those that each theorem states. -/
import Derived.Test.YtbolcmcjniiieaaVxA
import Derived.Tactics
import Derived.WalkKit
import Derived.Laws.BytesArg
import Derived.Laws.MakeOwn
import Derived.Laws.OwnMore
import Derived.Laws.CopyRow
import Derived.Maps.AppendAt
import Derived.Laws.IdiomStrings
set_option linter.unusedVariables false
set_option linter.unusedSimpArgs false
namespace Vx
open Go Go.RowKit

theorem run_bind {α β : Type} (m : Rd α) (f : α → Rd β) (g : Loc → Ct) : (m.bind f).run g = (m.run g).bind fun x => (f x).run g := by
  induction m with
  | ret x => rfl
  | fail => rfl
  | ask l k ih => exact ih (g l)
  | br c t e iht ihe => cases c <;> simp only [Rd.bind, Rd.run, iht, ihe]
theorem run_bind_some {α β : Type} {m : Rd α} {f : α → Rd β} {g : Loc → Ct} {y : β} (h : (m.bind f).run g = some y) : ∃ x, m.run g = some x ∧ (f x).run g = some y := by
  rw [run_bind] at h
  exact Option.bind_eq_some_iff.1 h
theorem run_test {α : Type} {c : Bool} {m : Rd α} {g : Loc → Ct} {y : α} (h : (Rd.test c m).run g = some y) : c = true ∧ m.run g = some y := by
  cases c
  · simp [Rd.test, Rd.run] at h
  · exact ⟨rfl, h⟩
theorem run_ret {α : Type} {x y : α} {g : Loc → Ct} (h : (Rd.ret x).run g = some y) : x = y := Option.some.inj h
theorem run_ask {α : Type} {l : Loc} {k : Ct → Rd α} {g : Loc → Ct} {y : α} (h : (Rd.ask l k).run g = some y) : (k (g l)).run g = some y := h

section
variable {P : Program} {o : Oper} {a : Act} {w w' : World} {next : Act → World → Prop} {Q : Exit → Act → World → Prop} {v : Value}
theorem wp_value (hr : (execOp a.eval o).run P w = .ok (.value v) w') (h : next (a.put o.dst v) w') : o.wp P a w next Q := by
  unfold Oper.wp; rw [hr]; exact h
theorem wp_skip' (hr : (execOp a.eval o).run P w = .ok .skip w') (h : next (a.put o.dst undef) w') : o.wp P a w next Q := by
  unfold Oper.wp; rw [hr]; exact h
end
section
variable {F : Fr} {σ : St} {a : Act} {w : World} {g : Gm}
theorem avOf_ok (h : Sat F σ a w g) {t : Tmp} {x : AV} (hr : (avOf t).run (get σ) = some x) : AVRep g F.N w (a.eval (.tmp t)) x := by
  have hr' := run_ask hr
  split at hr'
  · rename_i y hy
    obtain rfl := run_ret hr'
    exact h.tmp t _ hy
  · cases hr'
theorem opv_ok (h : Sat F σ a w g) {x : Operand} {y : AV} (hr : (opv x).run (get σ) = some y) : AVRep g F.N w (a.eval x) y := by
  cases x with
  | tmp t => exact avOf_ok h hr
  | const v => cases v <;> first
    | (obtain rfl := run_ret hr; rfl)
    | cases hr
    | (rename_i q; cases q <;> first
        | (obtain rfl := run_ret hr; rfl)
        | cases hr)
  | global g => obtain rfl := run_ret hr; rfl
  | func f => cases hr
theorem scal_ok (h : Sat F σ a w g) {x : Operand} {v : Value} (hr : (scal x).run (get σ) = some v) : a.eval x = v := by
  obtain ⟨y, hy, hr'⟩ := run_bind_some hr
  have := opv_ok h hy
  split at hr'
  · obtain rfl := run_ret hr'
    exact this
  · cases hr'
end
theorem run_binR {P : Program} {w : World} {op : BinOp} {t : TypeId} {ox oy : Operand} {x y v : Value} {G : Loc → Ct} (h : (binR op x y).run G = some v) :
    (do eqGuard op t ox oy x y; binOp op t x y : Sem Value).run P w = .ok v w := by
  unfold binR at h
  split at h
  · rename_i k a l b
    split at h <;> first
      | (obtain ⟨hc, h⟩ := run_test h; obtain ⟨hd, h⟩ := run_test h; obtain rfl := run_ret h; obtain rfl := IntKind.eqb_iff.1 hc
         simp only [Bool.not_eq_true', decide_eq_false_iff_not] at hd
         simp [eqGuard, binOp, Op.intDiv, hd]; done)
      | (obtain ⟨hc, h⟩ := run_test h; obtain rfl := run_ret h; obtain rfl := IntKind.eqb_iff.1 hc
         simp [eqGuard, binOp, Op.intArith, Op.intBits, Op.intCmp]; done)
      | (obtain ⟨hc, h⟩ := run_test h; obtain rfl := run_ret h
         simp only [decide_eq_true_eq] at hc
         simp [eqGuard, binOp, Op.shift, Int.not_lt.2 hc]; done)
      | cases h
  · rename_i a b
    split at h <;> first
      | (obtain ⟨hc, h⟩ := run_test h; obtain rfl := run_ret h
         simp only [decide_eq_true_eq] at hc
         have hm : ¬ IntKind.i64.max < ((a.size + b.size : Nat) : Int) := by
           have : IntKind.i64.max = 9223372036854775807 := by rfl
           omega
         have e : Op.stringOp .add a b = Pure.pure (.string (a ++ b)) := by
           unfold Op.stringOp
           exact if_neg hm
         simp [eqGuard, binOp, e]; done)
      | (obtain rfl := run_ret h; simp [eqGuard, binOp, Op.stringOp]; done)
      | cases h
  · cases h
theorem run_boolR {P : Program} {w : World} {op : BinOp} {t : TypeId} (ht : P.underlying t = some .bool) {ox oy : Operand} {x y v : Value} {m : Rd Value} (hm : boolR op x y = some m) {G : Loc → Ct} (h : m.run G = some v) :
    (do eqGuard op t ox oy x y; binOp op t x y : Sem Value).run P w = .ok v w := by
  unfold boolR at hm
  split at hm
  · rename_i a b
    cases hm
    have hd : Op.maxDepth = 9999 + 1 := rfl
    have he : (Op.equal t (.bool a) (.bool b)).run P w = .ok (a == b) w := by
      unfold Op.equal
      rw [hd]
      unfold Op.equalIn
      simp [run_underlying ht]
    split at h
    · obtain rfl := run_ret h
      simp [eqGuard, binOp, he]
    · obtain rfl := run_ret h
      simp [eqGuard, binOp, he]
    · cases h
  · cases hm
end Vx
/- The operations: reading of rows and boxes. -/
namespace Vx
open Go Go.RowKit

def zval : ZC → Value
  | .int k => .int k 0
  | .bool => .bool false
  | .str => .string ⟨#[]⟩
  | .nil _ => .slice none 0 0
structure TIok (P : Program) (t : TypeId) (ti : TI) : Prop where
  inf : ∃ i z, P.info? t = some i ∧ i.size = ti.size ∧ i.bytes = ti.bytes ∧ i.zero = some z ∧ z.cells.toList = ti.zc.map zval
  und : match ti.k with
    | .int k => P.underlying t = some (.int k)
    | .bool => P.underlying t = some .bool
    | .str => P.underlying t = some .string
    | .slice e => P.underlying t = some (.slice e)
    | .struct fs => ∃ fields, P.underlying t = some (.struct fields) ∧ All2 (fun f p => f.offset = p.1 ∧ ∃ i, P.info? f.type = some i ∧ i.size = p.2) fields.toList fs
    | .arr k e n => P.underlying t = some (.array n e) ∧ P.underlying e = some (.int k)
def kzero : RK → List Value
  | .ints k => [.int k 0]
  | .strs => [.string ⟨#[]⟩]
  | .eqs => [.slice none 0 0, .string ⟨#[]⟩]
  | .deqs => [.slice none 0 0, .string ⟨#[]⟩]
  | .arr k _ => [.int k 0]
def kwd : RK → Nat
  | .eqs => 2
  | .deqs => 2
  | _ => 1
structure EKok (P : Program) (e : TypeId) (k : RK) : Prop where
  inf : ∃ i z, P.info? e = some i ∧ i.size = kwd k ∧ 0 < i.bytes ∧ i.bytes ≤ 64 ∧ i.zero = some z ∧ z.cells.toList = kzero k
structure TabOk (P : Program) (cx : Cx) : Prop where
  ti : ∀ t x, alook cx.ti t = some x → TIok P t x
  ek : ∀ e k, alook cx.ek.ts e = some k → EKok P e k ∧ ekOf cx.ek k = some e
  na : ∀ e k, alook cx.ek.ts e = some k → k.isArr = false
  nil : ∀ t x, alook cx.ti t = some x → ∀ k, ZC.nil k ∈ x.zc → k.isArr = false ∧ (ekOf cx.ek k).isSome = true
theorem run_tio {cx : Cx} {t : TypeId} {ti : TI} {G : Loc → Ct} (h : (cx.tio t).run G = some ti) : alook cx.ti t = some ti := by
  unfold Cx.tio at h
  split at h
  · rename_i x hx; rw [hx]; exact h
  · cases h
theorem run_eko {cx : Cx} {t : TypeId} {k : RK} {G : Loc → Ct} (h : (cx.eko t).run G = some k) : alook cx.ek.ts t = some k := by
  unfold Cx.eko at h
  split at h
  · rename_i x hx; rw [hx]; exact h
  · cases h
theorem kwd_wd (d : Row) : kwd d.kind = d.wd := by cases d <;> rfl

/-- What is at hand of a row: its cells can be read. -/
def RowLook (w : World) (Pi : Nat → Prop) (u : Value) (d : Row) : Prop :=
  ∃ A cap, u = .slice A d.len cap ∧ d.len ≤ cap ∧ (0 < d.len → ∃ ad, A = some ad ∧ ∀ j c, d.flat[j]? = some c → ∃ x, w.cell? (ad.add j) = some x ∧ DRep w Pi x c)
theorem RowRep.look {w : World} {Pi : Nat → Prop} {u : Value} {d : Row} (h : RowRep w Pi u d) : RowLook w Pi u d := by
  obtain ⟨A, cap, h1, h2, h3⟩ := h
  exact ⟨A, cap, h1, h2, fun hl => let ⟨ad, ha, _, hc⟩ := h3 hl; ⟨ad, ha, hc⟩⟩
theorem add_add (ad : Addr) (m n : Nat) : (ad.add m).add n = ad.add (m + n) := by
  unfold Addr.add
  by_cases h1 : m = 0 <;> by_cases h2 : n = 0 <;> simp [h1, h2, Nat.add_assoc]
theorem flat_sub (d : Row) (lo hi : Nat) : (d.sub lo hi).flat = (d.flat.take (hi * d.wd)).drop (lo * d.wd) := by
  cases d with
  | ints k xs => simp [Row.sub, Row.flat, Row.wd, List.map_take, List.map_drop]
  | strs xs => simp [Row.sub, Row.flat, Row.wd, List.map_take, List.map_drop]
  | eqs xs =>
    simp only [Row.sub, Row.flat, Row.wd]
    have key : ∀ (xs : List (List Int × ByteArray)) (n : Nat), (xs.take n).flatMap (fun x => [DC.ir x.1, .sc (.string x.2)]) = (xs.flatMap fun x => [DC.ir x.1, .sc (.string x.2)]).take (n * 2) := by
      intro xs
      induction xs with
      | nil => intro n; simp
      | cons x xs ih => intro n; cases n with
        | zero => simp
        | succ n => simp only [List.take_succ_cons, List.flatMap_cons, ih, Nat.succ_mul]; rfl
    have key2 : ∀ (xs : List (List Int × ByteArray)) (n : Nat), (xs.drop n).flatMap (fun x => [DC.ir x.1, .sc (.string x.2)]) = (xs.flatMap fun x => [DC.ir x.1, .sc (.string x.2)]).drop (n * 2) := by
      intro xs
      induction xs with
      | nil => intro n; simp
      | cons x xs ih => intro n; cases n with
        | zero => simp
        | succ n => simp only [List.drop_succ_cons, List.flatMap_cons, ih, Nat.succ_mul]; rfl
    rw [key2, key]
  | deqs xs =>
    simp only [Row.sub, Row.flat, Row.wd]
    have key : ∀ (xs : List (List Int × ByteArray)) (n : Nat), (xs.take n).flatMap (fun x => [DC.ir x.1, .sc (.string x.2)]) = (xs.flatMap fun x => [DC.ir x.1, .sc (.string x.2)]).take (n * 2) := by
      intro xs
      induction xs with
      | nil => intro n; simp
      | cons x xs ih => intro n; cases n with
        | zero => simp
        | succ n => simp only [List.take_succ_cons, List.flatMap_cons, ih, Nat.succ_mul]; rfl
    have key2 : ∀ (xs : List (List Int × ByteArray)) (n : Nat), (xs.drop n).flatMap (fun x => [DC.ir x.1, .sc (.string x.2)]) = (xs.flatMap fun x => [DC.ir x.1, .sc (.string x.2)]).drop (n * 2) := by
      intro xs
      induction xs with
      | nil => intro n; simp
      | cons x xs ih => intro n; cases n with
        | zero => simp
        | succ n => simp only [List.drop_succ_cons, List.flatMap_cons, ih, Nat.succ_mul]; rfl
    rw [key2, key]
  | arr k xs => simp [Row.sub, Row.flat, Row.wd, List.map_take, List.map_drop]
theorem len_sub (d : Row) {lo hi : Nat} (h : hi ≤ d.len) : (d.sub lo hi).len = hi - lo := by
  cases d <;> simp [Row.sub, Row.len] at h ⊢ <;> omega
theorem wd_sub (d : Row) (lo hi : Nat) : (d.sub lo hi).wd = d.wd := by cases d <;> rfl
theorem RowLook.sub {w : World} {Pi : Nat → Prop} {A : Option Addr} {cap : Nat} {d : Row} (h : RowLook w Pi (.slice A d.len cap) d) {lo hi : Nat} (h1 : lo ≤ hi) (h2 : hi ≤ d.len) :
    RowLook w Pi (.slice (if cap = lo then A else A.map (·.add (lo * d.wd))) (hi - lo) (cap - lo)) (d.sub lo hi) := by
  obtain ⟨A', cap', e, hc, h3⟩ := h
  injection e with e1 e2 e3
  subst e1; subst e3
  refine ⟨_, _, by rw [len_sub d h2], by rw [len_sub d h2]; omega, fun hl => ?_⟩
  rw [len_sub d h2] at hl
  obtain ⟨ad, rfl, hcell⟩ := h3 (by omega)
  rw [if_neg (by omega)]
  refine ⟨ad.add (lo * d.wd), rfl, fun j c hj => ?_⟩
  rw [flat_sub, List.getElem?_drop, List.getElem?_take] at hj
  split at hj
  · rw [add_add]; exact hcell _ c hj
  · cases hj
/-- The cells of element e in the flat row. -/
theorem flat_cells (d : Row) {e : Nat} (he : e < d.len) (j : Nat) (hj : j < d.wd) : d.flat[e * d.wd + j]? = (d.cells e)[j]? := by
  cases d with
  | ints k xs =>
    have : j = 0 := by simp [Row.wd] at hj; exact hj
    subst this
    simp only [Row.len] at he
    simp [Row.flat, Row.cells, Row.wd, List.getD_eq_getElem?_getD, List.getElem?_eq_getElem he]
  | strs xs =>
    have : j = 0 := by simp [Row.wd] at hj; exact hj
    subst this
    simp only [Row.len] at he
    simp [Row.flat, Row.cells, Row.wd, List.getD_eq_getElem?_getD, List.getElem?_eq_getElem he]
  | eqs xs =>
    simp only [Row.len] at he
    simp only [Row.flat, Row.cells, Row.wd]
    induction xs generalizing e with
    | nil => simp at he
    | cons x xs ih =>
      cases e with
      | zero => simp only [Nat.zero_mul, Nat.zero_add, List.flatMap_cons, List.getD_cons_zero]; rw [List.getElem?_append_left (by simpa [Row.wd] using hj)]
      | succ e =>
        simp only [List.flatMap_cons, List.getD_cons_succ]
        rw [List.getElem?_append_right (by simp; omega)]
        have := ih (e := e) (by simpa using he) (by exact hj)
        rw [← this]
        congr 1
        simp only [List.length_cons, List.length_nil]
        omega
  | deqs xs =>
    simp only [Row.len] at he
    simp only [Row.flat, Row.cells, Row.wd]
    induction xs generalizing e with
    | nil => simp at he
    | cons x xs ih =>
      cases e with
      | zero => simp only [Nat.zero_mul, Nat.zero_add, List.flatMap_cons, List.getD_cons_zero]; rw [List.getElem?_append_left (by simpa [Row.wd] using hj)]
      | succ e =>
        simp only [List.flatMap_cons, List.getD_cons_succ]
        rw [List.getElem?_append_right (by simp; omega)]
        have := ih (e := e) (by simpa using he) (by exact hj)
        rw [← this]
        congr 1
        simp only [List.length_cons, List.length_nil]
        omega
  | arr k xs =>
    have : j = 0 := by simp [Row.wd] at hj; exact hj
    subst this
    simp only [Row.len] at he
    simp [Row.flat, Row.cells, Row.wd, List.getD_eq_getElem?_getD, List.getElem?_eq_getElem he]
theorem cells_len (d : Row) (e : Nat) : (d.cells e).length = d.wd := by cases d <;> rfl

section
variable {F : Fr} {σ : St} {a : Act} {w : World} {g : Gm}
theorem Sat.rowLookG (h : Sat F σ a w g) {i : Nat} {own fr : Bool} {d : Row} (hi : get σ (.r i) = .row own fr d) {Q : Nat → Prop} (h1 : ∀ j, PG g F.N fr j → Q j) (h2 : own = true → ∀ j, rg (PG g F.N fr) d (g.ob i) j → Q j) : RowLook w Q (g.rv i) d := by
  have hp := h1
  have hq := h2
  clear h1 h2
  obtain ⟨h1, h2, h3⟩ := h.row i own fr d hi
  cases own with
  | true =>
    obtain ⟨⟨e, he, ho, hk⟩, hb⟩ := h3
    have := (ho.row (Pk := fun _ => True) (fun _ _ => trivial) fun _ _ => trivial)
    obtain ⟨A, cap, e1, e2, e3⟩ := this
    refine ⟨A, cap, e1, e2, fun hl => ?_⟩
    obtain ⟨ad, ha, _, hc⟩ := e3 hl
    refine ⟨ad, ha, fun j c hj => ?_⟩
    obtain ⟨cs, ho1, ho2⟩ := ho
    obtain ⟨x, hx1, hx2⟩ := ho2 j c hj
    obtain ⟨y, hy1, hy2⟩ := hc j c hj
    have hb' : (g.rv i).ownBlock = some ad.block := by rw [e1, ha]; rfl
    have hx' := ownsM_cells ho1 hb' j x hx1
    have hadd : (⟨ad.block, 0, none⟩ : Addr).add j = ad.add j := by
      rcases ho1.2 with ⟨h0, _⟩ | ⟨b', cap', cur, fz, h0, _⟩
      · rw [h0] at hb'; cases hb'
      · rw [e1, ha] at h0; injection h0 with h0 _ _; injection h0 with h0; rw [h0]
    rw [hadd] at hx'
    exact ⟨x, hx', hx2.chg (Chg.refl (fun _ => False) w) (fun _ _ h => h) (hq rfl)⟩
  | false => exact RowRep.look (h3.chg (Chg.refl (fun _ => False) w) (fun _ _ h => h) hp)
theorem Sat.rowLook (h : Sat F σ a w g) {i : Nat} {own fr : Bool} {d : Row} (hd : d.deep = false) (hi : get σ (.r i) = .row own fr d) : RowLook w (PG g F.N fr) (g.rv i) d :=
  h.rowLookG hi (fun _ h => h) fun _ j hj => by rw [rg_flat hd] at hj; exact hj
theorem Sat.rowLookS (h : Sat F σ a w g) {i : Nat} {own fr : Bool} {d : Row} (hi : get σ (.r i) = .row own fr d) : RowLook w (fun _ => True) (g.rv i) d := h.rowLookG hi (fun _ _ => trivial) fun _ _ _ => trivial
theorem shallow {d : Row} (h : (!d.deep) = true) : d.deep = false := by simpa using h
theorem rowR_ok (h : Sat F σ a w g) {x : AV} {u : Value} (hx : AVRep g F.N w u x) {d : Row} {fr : Bool} (hr : (rowR x).run (get σ) = some (d, fr)) : RowLook w (PG g F.N fr) u d := by
  unfold rowR at hr
  split at hr
  · have := run_ret hr
    cases this
    exact RowRep.look hx
  · rename_i i
    have hr' := run_ask hr
    split at hr'
    · rename_i own fr' d' hi
      obtain ⟨hdp, hr'⟩ := run_test hr'
      have := run_ret hr'
      cases this
      have h1 := h.rowLook (shallow hdp) hi
      rw [← hx.2] at h1
      exact h1
    · cases hr'
  · rename_i i lo hi
    have hr' := run_ask hr
    split at hr'
    · rename_i own fr' d' hi'
      obtain ⟨hdp, hr'⟩ := run_test hr'
      have := run_ret hr'
      cases this
      obtain ⟨hx1, hx2, hx3, A, len, cap, hx4, rfl⟩ := hx
      obtain ⟨_, ⟨hw, hl⟩, _⟩ := h.row i _ _ _ hi'
      have h1 := h.rowLook (shallow hdp) hi'
      rw [hx4] at h1
      have e : len = d'.len := by obtain ⟨_, _, e, _⟩ := h1; injection e with _ e _
      subst e
      rw [hw]
      exact h1.sub hx2 (by rw [← hl]; exact hx3)
    · cases hr'
  · cases hr
end
end Vx
/- The operations that only compute and read. -/
namespace Vx
open Go Go.RowKit

section
variable {P : Program} {cx : Cx} {F : Fr} {σ : St} {a : Act} {w : World} {g : Gm}
theorem run_sizeOf' {t : TypeId} {ti : TI} (ht : TIok P t ti) (w : World) : (Go.sizeOf t).run P w = .ok ti.size w := by
  obtain ⟨i, z, h1, h2, _⟩ := ht.inf
  simp [Go.sizeOf, typeInfo, h1, h2]
theorem run_isAgg' {t : TypeId} {ti : TI} (ht : TIok P t ti) (w : World) : (isAgg t).run P w = .ok (isSt ti.k) w := by
  have hu := ht.und
  unfold isAgg isSt
  split at hu <;> rename_i hk
  · simp [run_underlying hu, hk]
  · simp [run_underlying hu, hk]
  · simp [run_underlying hu, hk]
  · simp [run_underlying hu, hk]
  · obtain ⟨fields, hu, _⟩ := hu
    simp [run_underlying hu, hk]
  · simp [run_underlying hu.1, hk]
theorem inR_ok {α : Type} {i : Int} {n : Nat} {m : Rd α} {G : Loc → Ct} {y : α} (h : (inR i n m).run G = some y) : 0 ≤ i ∧ i < n ∧ m.run G = some y := by
  obtain ⟨h1, h⟩ := run_test h
  obtain ⟨h2, h⟩ := run_test h
  exact ⟨by simpa using h1, by simpa using h2, h⟩
theorem asInt_ok {x : AV} {n : Int} {G : Loc → Ct} {u : Value} (hx : AVRep g F.N w u x) (h : (asInt x).run G = some n) : ∃ k, u = .int k n := by
  unfold asInt at h
  split at h
  · obtain rfl := run_ret h
    exact ⟨_, hx⟩
  · cases h
theorem indexAddr_ok (h : Sat F σ a w g) {t e : TypeId} {te : TI} (hu : P.underlying t = some (.slice e)) (he : TIok P e te) {x y : AV} {u iv : Value} {n : Int} {k : IntKind} (hx : AVRep g F.N w u x) (hi : iv = .int k n)
    (hr : (indexAddrR te.size x n).run (get σ) = some y) : ∃ v, (Instr.indexAt t u iv).run P w = .ok v w ∧ AVRep g F.N w v y := by
  subst hi
  have hrun : ∀ (ad : Addr) (len cap : Nat), u = .slice (some ad) len cap → 0 ≤ n → n < len → (Instr.indexAt t u (.int k n)).run P w = .ok (.pointer (some (ad.add (n.toNat * te.size)))) w := fun ad len cap hu' h0 h1 => by
    subst hu'
    simp [Instr.indexAt, asIntOf, run_underlying hu, h0, h1, run_sizeOf' he]
  unfold indexAddrR at hr
  split at hr
  · rename_i fr d
    obtain ⟨hs, hr⟩ := run_test hr
    have hs := Nat.eq_of_beq_eq_true hs
    obtain ⟨h0, h1, hr⟩ := inR_ok hr
    obtain rfl := run_ret hr
    obtain ⟨A, cap, e1, e2, e3⟩ := (hx : RowRep w (PG g F.N fr) u d)
    obtain ⟨ad, rfl, hb, hc⟩ := e3 (by omega)
    refine ⟨_, hrun ad d.len cap e1 h0 h1, _, rfl, by rw [add_block]; exact hb, fun j c hj => ?_⟩
    have hjw : j < d.wd := by rw [← cells_len d n.toNat]; exact (List.getElem?_eq_some_iff.1 hj).1
    rw [hs, add_add]
    exact hc _ c (by rw [flat_cells d (by omega) j hjw]; exact hj)
  · rename_i r
    have hr' := run_ask hr
    split at hr'
    · rename_i own fr d hd
      obtain ⟨hs, hr⟩ := run_test hr'
      have hs := Nat.eq_of_beq_eq_true hs
      obtain ⟨h0, h1, hr⟩ := inR_ok hr
      obtain rfl := run_ret hr
      obtain ⟨hx1, rfl⟩ := hx
      obtain ⟨_, ⟨hw, hl⟩, _⟩ := h.row r _ _ _ hd
      obtain ⟨A, cap, e1, e2, e3⟩ := h.rowLookS hd
      obtain ⟨ad, rfl, hc⟩ := e3 (by omega)
      have h00 : (d.flat)[0]? ≠ none := by
        have : 0 < d.flat.length := by rw [flat_len]; exact Nat.mul_pos (by omega) (wd_pos d)
        simp [this]
      have hsp : ad.spot = none := by
        cases h0' : d.flat[0]? with
        | none => exact absurd h0' h00
        | some c =>
          obtain ⟨x, hx, _⟩ := hc 0 c h0'
          have : ad.add 0 = ad := rfl
          rw [this] at hx
          unfold World.cell? at hx
          split at hx
          · split at hx
            · cases hx
            · rename_i hs; cases hsp : ad.spot <;> simp_all
          · cases hx
      refine ⟨_, hrun ad d.len cap e1 h0 h1, hx1, by rw [hl]; omega, ad, d.len, cap, e1, by rw [Nat.add_zero, hs, hw], hsp⟩
    · cases hr'
  · rename_i r lo hi
    have hr' := run_ask hr
    split at hr'
    · rename_i own fr d hd
      obtain ⟨hs, hr⟩ := run_test hr'
      have hs := Nat.eq_of_beq_eq_true hs
      obtain ⟨h0, h1, hr⟩ := inR_ok hr
      obtain rfl := run_ret hr
      obtain ⟨hx1, hx2, hx3, A, len, cap, hx4, hu4⟩ := hx
      obtain ⟨_, ⟨hw, hl⟩, _⟩ := h.row r _ _ _ hd
      obtain ⟨A', cap', e1, e2, e3⟩ := h.rowLookS hd
      rw [hx4] at e1
      injection e1 with e1 e4 e5
      subst e1; subst e4; subst e5
      obtain ⟨ad, rfl, hc⟩ := e3 (by omega)
      have h00 : (d.flat)[0]? ≠ none := by
        have : 0 < d.flat.length := by rw [flat_len]; exact Nat.mul_pos (by omega) (wd_pos d)
        simp [this]
      have hsp : ad.spot = none := by
        cases h0' : d.flat[0]? with
        | none => exact absurd h0' h00
        | some c =>
          obtain ⟨x, hx, _⟩ := hc 0 c h0'
          have : ad.add 0 = ad := rfl
          rw [this] at hx
          unfold World.cell? at hx
          split at hx
          · split at hx
            · cases hx
            · rename_i hs; cases hsp : ad.spot <;> simp_all
          · cases hx
      rw [if_neg (by omega)] at hu4
      refine ⟨_, hrun _ _ _ hu4 h0 (by omega), hx1, by omega, ad, d.len, cap, hx4, ?_, hsp⟩
      rw [add_add, hs, hw, Nat.add_zero, ← Nat.add_mul]
    · cases hr'
  · cases hr

theorem field_ok (h : Sat F σ a w g) {t : TypeId} {ti : TI} (ht : TIok P t ti) {f : Nat} {x y : AV} {u : Value} (hx : AVRep g F.N w u x) (hr : (fieldR ti f x).run (get σ) = some y) :
    ∃ v, (Instr.fieldAt t u f).run P w = .ok v w ∧ AVRep g F.N w v y := by
  have key : ∀ (fs : List (Nat × Nat)) (o s : Nat) (ad : Addr), ti.k = .struct fs → fs[f]? = some (o, s) → 0 < s → u = .pointer (some ad) → (Instr.fieldAt t u f).run P w = .ok (.pointer (some (ad.add o))) w := fun fs o s ad hk hf hs hu => by
    have hd := ht.und
    rw [hk] at hd
    obtain ⟨fields, hd, hall⟩ := hd
    obtain ⟨fl, hfl, ho, i, hi, his⟩ := hall.get f _ hf
    have hfl' : fields[f]? = some fl := by simpa using hfl
    subst hu
    have hne : ¬ i.size = 0 := by omega
    simp [Instr.fieldAt, run_underlying hd, hfl', Instr.sureAddr, fieldPlace, Go.sizeOf, typeInfo, hi, hne, ho]
  unfold fieldR at hr
  split at hr
  · rename_i b off
    split at hr
    · rename_i fs hk
      split at hr
      · rename_i o s hf
        obtain ⟨hs, hr⟩ := run_test hr
        obtain rfl := run_ret hr
        refine ⟨_, key fs o s _ hk hf (by simpa using hs) hx.2, hx.1, ?_⟩
        unfold Addr.add
        split
        · rename_i h0; subst h0; rfl
        · rfl
      · cases hr
    · cases hr
  · rename_i fr cs
    split at hr
    · rename_i fs hk
      split at hr
      · rename_i o s hf
        obtain ⟨hs, hr⟩ := run_test hr
        obtain rfl := run_ret hr
        obtain ⟨ad, h1, h2, h3⟩ := hx
        refine ⟨_, key fs o s ad hk hf (by simpa using hs) h1, ad.add o, rfl, by rw [add_block]; exact h2, fun j c hj => ?_⟩
        rw [List.getElem?_drop] at hj
        rw [add_add]
        exact h3 _ c hj
      · cases hr
    · cases hr
  · rename_i i e off
    split at hr
    · rename_i fs hk
      split at hr
      · rename_i o s hf
        obtain ⟨hs, hr⟩ := run_test hr
        obtain rfl := run_ret hr
        obtain ⟨h1, h0, ad, len, cap, h2, h3, h4⟩ := hx
        exact ⟨_, key fs o s _ hk hf (by simpa using hs) h3, h1, h0, ad, len, cap, h2, by rw [add_add, Nat.add_assoc], h4⟩
      · cases hr
    · cases hr
  · cases hr
theorem dc_cell {Pi : Nat → Prop} {fr : Bool} {u : Value} {c : DC} (hp : ∀ j, Pi j → PG g F.N fr j) (h : DRep w Pi u c) : CellRep g F.N w u (dcCell fr c) := by
  cases c with
  | sc v => exact h
  | ir xs =>
    obtain ⟨A, cap, h1, h2, h3⟩ := h
    refine ⟨A, cap, h1, h2, fun hl => ?_⟩
    obtain ⟨ad, ha, hb, hc⟩ := h3 hl
    refine ⟨ad, ha, hp _ hb, fun j c hj => ?_⟩
    simp only [Row.flat, List.getElem?_map, Option.map_eq_some_iff] at hj
    obtain ⟨n, hn, rfl⟩ := hj
    have hl := (List.getElem?_eq_some_iff.1 hn).1
    refine ⟨_, hc j hl, ?_⟩
    simp [DRep, List.getD_eq_getElem?_getD, hn]
/-- Cells read one by one. -/
theorem loadVar_ok {t : TypeId} {ti : TI} (ht : TIok P t ti) {ad : Addr} {us : List Value} {cs : List Cell} (hcell : ∀ (j : Nat) v, us[j]? = some v → w.cell? (ad.add j) = some v) (hl : us.length = ti.size) (hall : All2 (CellRep g F.N w) us cs)
    {y : AV} {G : Loc → Ct} (hr : (loadCs (isSt ti.k) cs).run G = some y) : ∃ v, (loadVar t ad).run P w = .ok v w ∧ AVRep g F.N w v y := by
  unfold loadCs at hr
  split at hr
  · rename_i hst
    obtain rfl := run_ret hr
    refine ⟨.agg us.toArray, ?_, us, rfl, hall⟩
    have := run_loadCells_list (P := P) (w := w) ad us hcell
    rw [hl] at this
    simp [loadVar, run_isAgg' ht, hst, run_sizeOf' ht, this]
  · rename_i c hst
    obtain rfl := run_ret hr
    cases hall with
    | cons h1 t1 =>
      cases t1
      rename_i u
      refine ⟨u, ?_, h1⟩
      have h0 := hcell 0 u rfl
      have e : ad.add 0 = ad := rfl
      rw [e] at h0
      simp [loadVar, run_isAgg' ht, hst, h0]
  · cases hr
theorem list_of_cells {n : Nat} {p : Nat → Value → Prop} (h : ∀ j, j < n → ∃ x, p j x) : ∃ l : List Value, l.length = n ∧ ∀ j x, l[j]? = some x → p j x := by
  induction n with
  | zero => exact ⟨[], rfl, fun j x hx => by simp at hx⟩
  | succ n ih =>
    obtain ⟨l, hl, hp⟩ := ih fun j hj => h j (by omega)
    obtain ⟨x, hx⟩ := h n (by omega)
    refine ⟨l ++ [x], by simp [hl], fun j y hy => ?_⟩
    by_cases hj : j < n
    · rw [List.getElem?_append_left (by omega)] at hy
      exact hp j y hy
    · have hjl := (List.getElem?_eq_some_iff.1 hy).1
      simp [hl] at hjl
      have : j = n := by omega
      subst this
      rw [List.getElem?_append_right (by omega)] at hy
      simp [hl] at hy
      exact hy ▸ hx
theorem fitR_ok {α : Type} {n off : Nat} {cs : List α} (h : fitR n off cs = true) : off + n ≤ cs.length := by simpa [fitR] using h
theorem arrCells_len (k : IntKind) (xs : List Int) : ∀ n j, (arrCells k xs n j).length = n
  | 0, _ => rfl
  | n + 1, j => by simp [arrCells, arrCells_len k xs n (j + 1)]
theorem arrCells_get (k : IntKind) (xs : List Int) : ∀ n j m c, (arrCells k xs n j)[m]? = some c → m < n ∧ c = .sc (.int k (xs.getD (j + m) 0))
  | 0, _, m, c, h => by simp [arrCells] at h
  | n + 1, j, 0, c, h => by simp [arrCells] at h; exact ⟨by omega, by rw [← h]; simp⟩
  | n + 1, j, m + 1, c, h => by
    simp only [arrCells, List.getElem?_cons_succ] at h
    obtain ⟨h1, h2⟩ := arrCells_get k xs n (j + 1) m c h
    exact ⟨by omega, by rw [h2, show j + 1 + m = j + (m + 1) by omega]⟩
/-- The cells of an array of one's own. -/
theorem arr_cells (h : Sat F σ a w g) {i : Nat} {own fr : Bool} {k : IntKind} {xs : List Int} (hd : get σ (.r i) = .row own fr (.arr k xs)) {ad : Addr} {len cap : Nat} (hv : g.rv i = .slice (some ad) len cap) {j : Nat} (hj : j < xs.length) : w.cell? (ad.add j) = some (.int k (xs.getD j 0)) := by
  obtain ⟨A, cap', e1, e2, e3⟩ := h.rowLookS hd
  rw [hv] at e1
  injection e1 with e1 e4 e5
  obtain ⟨ad', ha, hc⟩ := e3 (by show 0 < xs.length; omega)
  rw [ha] at e1
  injection e1 with e1
  subst e1
  obtain ⟨x, hx1, hx2⟩ := hc j (.sc (.int k (xs.getD j 0))) (by simp [Row.flat, List.getD_eq_getElem?_getD, List.getElem?_eq_getElem hj])
  rw [hx1]
  exact congrArg some hx2
theorem load_ok (h : Sat F σ a w g) {t : TypeId} {ti : TI} (ht : TIok P t ti) {x y : AV} {u : Value} (hx : AVRep g F.N w u x) (hr : (loadR ti (isSt ti.k) x).run (get σ) = some y) :
    ∃ v, (Instr.loadAt t u).run P w = .ok v w ∧ AVRep g F.N w v y := by
  unfold loadR at hr
  split at hr
  · rename_i b off
    have hr' := run_ask hr
    split at hr'
    · rename_i cs hb
      obtain ⟨hf, hr⟩ := run_test hr'
      have hf := fitR_ok hf
      obtain ⟨hx1, rfl⟩ := hx
      obtain ⟨_, us, ty, hg, hall, _⟩ := h.box b cs hb
      have hlen := hall.length
      obtain ⟨v, hv1, hv2⟩ := loadVar_ok (P := P) ht (ad := ⟨g.bb b, off, none⟩) (us := (us.drop off).take ti.size) (cs := (cs.drop off).take ti.size) (fun j v hj => by
        rw [List.getElem?_take] at hj
        split at hj
        · rw [List.getElem?_drop] at hj
          have e : (⟨g.bb b, off, none⟩ : Addr).add j = ⟨g.bb b, off + j, none⟩ := by unfold Addr.add; split <;> simp_all
          rw [e]
          simp [World.cell?, hg]
          exact hj
        · cases hj) (by simp; omega) ((hall.drop off).take ti.size) hr
      exact ⟨v, by simpa [Instr.loadAt, Instr.sureAddr] using hv1, hv2⟩
    · cases hr'
  · rename_i fr cs
    obtain ⟨hf, hr⟩ := run_test hr
    have hf := fitR_ok hf
    obtain ⟨ad, rfl, h2, h3⟩ := hx
    obtain ⟨us, hul, hus⟩ := list_of_cells (n := ti.size) (p := fun j x => w.cell? (ad.add j) = some x ∧ ∀ c, cs[j]? = some c → DRep w (PG g F.N fr) x c) fun j hj => by
      have hlt : j < cs.length := by omega
      obtain ⟨x, hx1, hx2⟩ := h3 j _ (List.getElem?_eq_getElem hlt)
      exact ⟨x, hx1, fun c hc => by rw [List.getElem?_eq_getElem hlt] at hc; cases hc; exact hx2⟩
    obtain ⟨v, hv1, hv2⟩ := loadVar_ok (P := P) (F := F) (g := g) ht (ad := ad) (us := us) (cs := (cs.take ti.size).map (dcCell fr)) (fun j v hj => (hus j v hj).1) hul
      (All2.map_right (All2.of_get (by simp [hul]; omega) fun j x c hx hc => dc_cell (fun _ hp => hp) ((hus j x hx).2 c (by rw [List.getElem?_take] at hc; split at hc; exact hc; cases hc)))) hr
    exact ⟨v, by simpa [Instr.loadAt, Instr.sureAddr] using hv1, hv2⟩
  · rename_i i e off
    have hr' := run_ask hr
    split at hr'
    · rename_i own fr d hd
      obtain ⟨hf, hr⟩ := run_test hr'
      simp only [Bool.and_eq_true] at hf
      obtain ⟨hdp, hf⟩ := hf
      have hf := fitR_ok hf
      obtain ⟨h1, h0, ad, len, cap, h2, rfl, h4⟩ := hx
      obtain ⟨_, ⟨hw, hl⟩, _⟩ := h.row i _ _ _ hd
      obtain ⟨A, cap', e1, e2, e3⟩ := h.rowLook (shallow hdp) hd
      rw [h2] at e1
      injection e1 with e1 e4 e5
      obtain ⟨ad', ha, hc⟩ := e3 (by omega)
      rw [ha] at e1
      injection e1 with e1
      subst e1
      rw [cells_len] at hf
      obtain ⟨us, hul, hus⟩ := list_of_cells (n := ti.size) (p := fun j x => w.cell? ((ad.add (e * g.wd i + off)).add j) = some x ∧ ∀ c, (d.cells e)[off + j]? = some c → DRep w (PG g F.N fr) x c) fun j hj => by
        have hlt : off + j < (d.cells e).length := by rw [cells_len]; omega
        have hfl := flat_cells d (e := e) (by omega) (off + j) (by omega)
        rw [List.getElem?_eq_getElem hlt] at hfl
        obtain ⟨x, hx1, hx2⟩ := hc _ _ hfl
        refine ⟨x, ?_, fun c hcc => ?_⟩
        · rw [add_add, hw, Nat.add_assoc]; exact hx1
        · rw [List.getElem?_eq_getElem hlt] at hcc; cases hcc; exact hx2
      obtain ⟨v, hv1, hv2⟩ := loadVar_ok (P := P) (F := F) (g := g) ht (ad := ad.add (e * g.wd i + off)) (us := us) (cs := (((d.cells e).drop off).take ti.size).map (dcCell fr)) (fun j v hj => (hus j v hj).1) hul
        (All2.map_right (All2.of_get (by simp [hul, cells_len]; omega) fun j x c hx hcc => dc_cell (fun _ hp => hp) ((hus j x hx).2 c (by
          rw [List.getElem?_take] at hcc
          split at hcc
          · rw [List.getElem?_drop] at hcc; exact hcc
          · cases hcc)))) hr
      exact ⟨v, by simpa [Instr.loadAt, Instr.sureAddr] using hv1, hv2⟩
    · cases hr'
  · rename_i i
    have hr' := run_ask hr
    split at hr'
    · rename_i own fr k xs hd
      obtain ⟨hst, hr2⟩ := run_test hr'
      obtain ⟨hf, hr⟩ := run_test hr2
      simp only [decide_eq_true_eq] at hf
      obtain ⟨h1, ad, len, cap, h2, rfl, h4⟩ := hx
      obtain ⟨us, hul, hus⟩ := list_of_cells (n := ti.size) (p := fun j x => w.cell? (ad.add j) = some x ∧ x = .int k (xs.getD j 0)) fun j hj => ⟨_, arr_cells h hd h2 (by omega), rfl⟩
      obtain ⟨v, hv1, hv2⟩ := loadVar_ok (P := P) (F := F) (g := g) (y := y) (G := get σ) ht (ad := ad) (us := us) (cs := arrCells k xs ti.size 0) (fun j v hj => (hus j v hj).1) hul
        (All2.of_get (by rw [hul, arrCells_len]) fun j x c hx hcc => by
          obtain ⟨_, rfl⟩ := arrCells_get _ _ _ _ _ _ hcc
          rw [Nat.zero_add]
          exact (hus j x hx).2) (by rw [hst]; exact hr)
      exact ⟨v, by simpa [Instr.loadAt, Instr.sureAddr] using hv1, hv2⟩
    · cases hr'
  · cases hr
end
end Vx
/- The operations: cuts, conversions. -/
namespace Vx
open Go Go.RowKit

section
variable {P : Program} {cx : Cx} {F : Fr} {σ : St} {a : Act} {w : World} {g : Gm}
theorem boundR_ok (h : Sat F σ a w g) {x : Option Operand} {dft n : Int} (hr : (boundR x dft).run (get σ) = some n) : (x = none ∧ n = dft) ∨ ∃ y k, x = some y ∧ a.eval y = .int k n := by
  cases x with
  | none => exact .inl ⟨rfl, (run_ret hr).symm⟩
  | some y =>
    obtain ⟨v, hv, hr⟩ := run_bind_some hr
    obtain ⟨k, hk⟩ := asInt_ok (opv_ok h hv) hr
    exact .inr ⟨y, k, rfl, hk⟩
/-- The bounds, as the model reckons them. -/
theorem run_bounds {isS : Bool} {len cap : Nat} {lo hi : Option Operand} {l h : Int} (hl : (lo = none ∧ l = 0) ∨ ∃ y k, lo = some y ∧ a.eval y = .int k l) (hh : (hi = none ∧ h = len) ∨ ∃ y k, hi = some y ∧ a.eval y = .int k h)
    (h0 : 0 ≤ l) (h1 : l ≤ h) (h2 : h ≤ cap) : (Instr.sliceBounds isS len cap (lo.map a.eval) (hi.map a.eval) none).run P w = .ok (l.toNat, h.toNat, cap) w := by
  have hb : ∀ (v : Value) (k : IntKind) (n : Int) (y : Nat) (c : BoundsCode), v = .int k n → 0 ≤ n → n ≤ y → (Instr.sliceBound v y c).run P w = .ok n.toNat w := fun v k n y c hv h0 h1 => by
    subst hv
    simp [Instr.sliceBound, asIntOf, h0, h1]
  unfold Instr.sliceBounds
  rcases hh with ⟨rfl, rfl⟩ | ⟨y, k, rfl, hy⟩
  · rcases hl with ⟨rfl, rfl⟩ | ⟨z, k', rfl, hz⟩
    · simp
    · simp [hb _ _ _ len _ hz h0 h1]
  · have e1 := hb _ _ _ cap (if isS = true then BoundsCode.sliceAcap else BoundsCode.sliceAlen) hy (by omega) h2
    rcases hl with ⟨rfl, rfl⟩ | ⟨z, k', rfl, hz⟩
    · simp [e1]
    · have e2 := hb _ _ _ h.toNat BoundsCode.sliceB hz h0 (by omega)
      simp [e1, e2]
theorem sliceS_ok (h : Sat F σ a w g) {t : TypeId} (hu : P.underlying t = some .string) {s : ByteArray} {lo hi : Option Operand} {y : AV} (hr : (sliceS s lo hi).run (get σ) = some y) :
    ∃ v, (Instr.sliceAt t (.string s) (lo.map a.eval) (hi.map a.eval) none).run P w = .ok v w ∧ AVRep g F.N w v y := by
  obtain ⟨l, hl, hr⟩ := run_bind_some hr
  obtain ⟨hh, hh', hr⟩ := run_bind_some hr
  obtain ⟨h0, hr⟩ := run_test hr
  obtain ⟨h1, hr⟩ := run_test hr
  obtain ⟨h2, hr⟩ := run_test hr
  obtain rfl := run_ret hr
  simp only [decide_eq_true_eq] at h0 h1 h2
  refine ⟨.string (s.extract l.toNat hh.toNat), ?_, rfl⟩
  have := run_bounds (P := P) (w := w) (isS := false) (len := s.size) (cap := s.size) (boundR_ok h hl) (boundR_ok h hh') h0 h1 h2
  simp [Instr.sliceAt, Instr.slice, run_underlying hu, this]
theorem sliceR_ok (h : Sat F σ a w g) {t e : TypeId} {te : TI} (hu : P.underlying t = some (.slice e)) (he : TIok P e te) {x y : AV} {u : Value} (hx : AVRep g F.N w u x) {lo hi : Option Operand} (hr : (sliceR te.size x lo hi).run (get σ) = some y) :
    ∃ v, (Instr.sliceAt t u (lo.map a.eval) (hi.map a.eval) none).run P w = .ok v w ∧ AVRep g F.N w v y := by
  have key : ∀ (A : Option Addr) (len cap : Nat) (l hh : Int), u = .slice A len cap → ((lo = none ∧ l = 0) ∨ ∃ y k, lo = some y ∧ a.eval y = .int k l) → ((hi = none ∧ hh = len) ∨ ∃ y k, hi = some y ∧ a.eval y = .int k hh) → 0 ≤ l → l ≤ hh → hh ≤ cap →
      (Instr.sliceAt t u (lo.map a.eval) (hi.map a.eval) none).run P w = .ok (.slice (if cap = l.toNat then A else A.map (·.add (l.toNat * te.size))) (hh.toNat - l.toNat) (cap - l.toNat)) w := fun A len cap l hh hu' hl hh' h0 h1 h2 => by
    subst hu'
    have := run_bounds (P := P) (w := w) (isS := true) (len := len) (cap := cap) hl hh' h0 h1 h2
    simp [Instr.sliceAt, Instr.slice, run_underlying hu, this, run_sizeOf' he]
  unfold sliceR at hr
  split at hr
  · rename_i fr d
    obtain ⟨l, hl, hr⟩ := run_bind_some hr
    obtain ⟨hh, hh', hr⟩ := run_bind_some hr
    obtain ⟨hs, hr⟩ := run_test hr
    obtain ⟨h0, hr⟩ := run_test hr
    obtain ⟨h1, hr⟩ := run_test hr
    obtain ⟨h2, hr⟩ := run_test hr
    obtain rfl := run_ret hr
    simp only [decide_eq_true_eq] at h0 h1 h2
    have hs := Nat.eq_of_beq_eq_true hs
    have hx' : RowRep w (PG g F.N fr) u d := hx
    obtain ⟨A, cap, e1, e2, e3⟩ := hx'
    refine ⟨_, key A d.len cap l hh e1 (boundR_ok h hl) (boundR_ok h hh') h0 h1 (by omega), ?_⟩
    have hlk : RowLook w (PG g F.N fr) (.slice A d.len cap) d := by rw [← e1]; exact RowRep.look hx
    obtain ⟨A', cap', e4, e5, e6⟩ := hlk.sub (lo := l.toNat) (hi := hh.toNat) (by omega) (by omega)
    refine ⟨A', cap', by rw [hs]; exact e4, e5, fun hp => ?_⟩
    obtain ⟨ad, ha, hc⟩ := e6 hp
    refine ⟨ad, ha, ?_, hc⟩
    rw [len_sub d (by omega)] at hp
    obtain ⟨ad0, rfl, hb, _⟩ := e3 (by omega)
    injection e4 with e4 _ _
    rw [if_neg (by omega), ha] at e4
    simp only [Option.map_some, Option.some.injEq] at e4
    rw [← e4, add_block]
    exact hb
  · rename_i i
    have hr' := run_ask hr
    split at hr'
    · rename_i own fr d hd
      obtain ⟨l, hl, hr⟩ := run_bind_some hr'
      obtain ⟨hh, hh', hr⟩ := run_bind_some hr
      obtain ⟨hs, hr⟩ := run_test hr
      obtain ⟨h0, hr⟩ := run_test hr
      obtain ⟨h1, hr⟩ := run_test hr
      obtain ⟨h2, hr⟩ := run_test hr
      obtain rfl := run_ret hr
      simp only [decide_eq_true_eq] at h0 h1 h2
      have hs := Nat.eq_of_beq_eq_true hs
      obtain ⟨hx1, rfl⟩ := hx
      obtain ⟨_, ⟨hw, hl'⟩, _⟩ := h.row i _ _ _ hd
      obtain ⟨A, cap, e1, e2, e3⟩ := h.rowLookS hd
      exact ⟨_, key A d.len cap l hh e1 (boundR_ok h hl) (boundR_ok h hh') h0 h1 (by omega), hx1, by omega, by omega, A, d.len, cap, e1, by rw [hs, hw]⟩
    · cases hr'
  · cases hr
theorem conv_ok (h : Sat F σ a w g) {ta tb : TypeId} {ia ib : TI} (hA : TIok P ta ia) (hB : TIok P tb ib) {x y : AV} {u : Value} (hx : AVRep g F.N w u x) (hr : (convR ia.k ib.k x).run (get σ) = some y)
    (hu8 : ∀ e, ia.k = .slice e → P.underlying e = some (.int .u8)) : ∃ v, (convert ta tb u).run P w = .ok v w ∧ AVRep g F.N w v y := by
  have ha := hA.und
  have hbb := hB.und
  unfold convR at hr
  split at hr
  · rename_i k k' k'' n hka hkb
    obtain rfl := run_ret hr
    rw [hka] at ha; rw [hkb] at hbb
    obtain rfl : u = .int k'' n := hx
    exact ⟨_, by simp [convert, run_underlying ha, run_underlying hbb, Conv.intToInt], rfl⟩
  · rename_i s hka hkb
    obtain rfl := run_ret hr
    rw [hka] at ha; rw [hkb] at hbb
    obtain rfl : u = .string s := hx
    exact ⟨_, by simp [convert, run_underlying ha, run_underlying hbb], rfl⟩
  · rename_i e hka hkb
    obtain ⟨⟨d, fr⟩, hd, hr⟩ := run_bind_some hr
    rw [hka] at ha; rw [hkb] at hbb
    have h8 := hu8 e hka
    split at hr
    · rename_i xs hxs
      obtain rfl := run_ret hr
      have hxs' : d = .ints .u8 xs := hxs
      subst hxs'
      obtain ⟨A, cap, rfl, e2, e3⟩ := rowR_ok h hx hd
      refine ⟨.string (strOf xs), ?_, rfl⟩
      cases xs with
      | nil =>
        cases A with
        | none => simp [convert, run_underlying ha, run_underlying hbb, run_underlying h8, Conv.bytesToString, strOf, Row.len]; rfl
        | some ad =>
          have := run_loadCells_list (P := P) (w := w) ad [] (fun j v hj => by simp at hj)
          simp only [List.length_nil] at this
          simp [convert, run_underlying ha, run_underlying hbb, run_underlying h8, Conv.bytesToString, strOf, Row.len, this]; rfl
      | cons y ys =>
        obtain ⟨ad, rfl, hc⟩ := e3 (by simp [Row.len])
        have hc0 := hc 0 _ (by simp [Row.flat]; rfl)
        obtain ⟨x0, hx0, _⟩ := hc0
        have e0 : ad.add 0 = ad := rfl
        rw [e0] at hx0
        have hsp : ad.spot = none := by
          unfold World.cell? at hx0
          split at hx0
          · split at hx0
            · cases hx0
            · rename_i hs; cases hsp : ad.spot <;> simp_all
          · cases hx0
        obtain ⟨b, off, spot⟩ := ad
        simp only at hsp
        subst hsp
        exact run_convert_bytes_arg w ta e ha h8 b off _ cap (y :: ys) rfl (fun i hi => by
          obtain ⟨x, hx1, hx2⟩ := hc i (.sc (.int .u8 ((y :: ys).getD i 0))) (by
            simp only [Row.flat, List.getElem?_map]
            rw [List.getElem?_eq_getElem (by simpa [Row.len] using hi)]
            simp [List.getD_eq_getElem?_getD, List.getElem?_eq_getElem (show i < (y :: ys).length by simpa [Row.len] using hi)])
          have hp : (⟨b, off, none⟩ : Addr).add i = ⟨b, off + i, none⟩ := by unfold Addr.add; split <;> simp_all
          rw [← hp, hx1, hx2]) tb hbb
    · cases hr
  · cases hr
end
end Vx
/- The operations: what makes memory. -/
namespace Vx
open Go Go.RowKit

def push (ws : List (Loc × Ct)) (σ : St) : St := ws.foldl (fun σ w => w :: σ) σ
theorem push_append (a b : List (Loc × Ct)) (σ : St) : push (a ++ b) σ = push b (push a σ) := by simp [push]
theorem push_cons (w : Loc × Ct) (b : List (Loc × Ct)) (σ : St) : push (w :: b) σ = push b (w :: σ) := rfl
theorem push_nil (σ : St) : push [] σ = σ := rfl
theorem get_push_other {ws : List (Loc × Ct)} {l : Loc} (h : ∀ p ∈ ws, p.1 ≠ l) (σ : St) : get (push ws σ) l = get σ l := by
  induction ws generalizing σ with
  | nil => rfl
  | cons w ws ih =>
    rw [push_cons, ih fun p hp => h p (List.mem_cons_of_mem _ hp)]
    exact get_other (Ne.symm (h w List.mem_cons_self)) _ _
theorem newLoc_ok {α : Type} {l : Loc} {m : Rd α} {G : Loc → Ct} {y : α} (h : (newLoc l m).run G = some y) : G l = .no ∧ m.run G = some y := by
  have h' := run_ask h
  split at h'
  · rename_i hl; exact ⟨hl, h'⟩
  · cases h'
theorem Gm.le.le_trans {a b c : Gm} (h : a.le b) (k : b.le c) : a.le c :=
  ⟨fun i hi => (k.rv i (h.dr i hi)).trans (h.rv i hi), fun i hi => (k.ob i (h.dr i hi)).trans (h.ob i hi), fun i hi => (k.wd i (h.dr i hi)).trans (h.wd i hi), fun i hi => (k.ln i (h.dr i hi)).trans (h.ln i hi), fun i hi => (k.bb i (h.db i hi)).trans (h.bb i hi), fun j hj => k.G j (h.G j hj), fun i hi => k.dr i (h.dr i hi), fun i hi => k.db i (h.db i hi)⟩
theorem CellRep.le {g g' : Gm} {N : Nat → Prop} {w : World} {u : Value} {c : Cell} (h : CellRep g N w u c) (hg : g.le g') : CellRep g' N w u c := h.chg (Chg.refl (fun _ => False) w) (fun _ _ h => h) hg
theorem AVRep.le {g g' : Gm} {N : Nat → Prop} {w : World} {u : Value} {c : AV} (h : AVRep g N w u c) (hg : g.le g') : AVRep g' N w u c := h.chg (Chg.refl (fun _ => False) w) (fun _ _ h => h) hg
theorem nil_own (w : World) (Pj : Nat → Prop) (e : TypeId) (k : RK) : OwnRep w Pj e (.slice none 0 0) (Row.nil k) := by
  refine ⟨[], ⟨?_, .inl ⟨rfl, ?_⟩⟩, fun j c hj => ?_⟩
  · cases k <;> simp [Row.nil, Row.len]
  · cases k <;> rfl
  · cases k <;> simp [Row.nil, Row.flat] at hj
theorem nil_kind {k : RK} (h : k.isArr = false) : (Row.nil k).kind = k := by
  cases k <;> first
    | rfl
    | cases h

theorem upK_ek (E : EK) (dp : Bool) (k : RK) : ekOf E (upK dp k) = ekOf E k := by cases dp <;> cases k <;> rfl
theorem nil_kindU {dp : Bool} {k : RK} (h : k.isArr = false) : (Row.nil (upK dp k)).kind = upK dp k := by
  cases dp <;> cases k <;> first
    | rfl
    | cases h
theorem nil_obk (w : World) (k : RK) : Obk w (.slice none 0 0) (Row.nil k) [] := by
  cases k with
  | deqs => exact ⟨0, [], [], ⟨rfl, .inl ⟨rfl, rfl⟩⟩, fun j hj => absurd hj (Nat.not_lt_zero j), ⟨rfl, fun j x hx => by simp at hx⟩, rfl, List.nodup_nil⟩
  | _ => exact rfl
section
variable {P : Program} {cx : Cx} {F : Fr} {σ : St} {a : Act} {w : World} {g : Gm}
theorem zeroR_ok (h : Sat F σ a w g) (dp : Bool) : ∀ (zs : List ZC) (_ : ∀ k, ZC.nil k ∈ zs → k.isArr = false ∧ (ekOf F.ek k).isSome = true) (id : Nat) (cs : List Cell) (ws : List (Loc × Ct)), (zeroR dp zs id).run (get σ) = some (cs, ws) →
    (∀ p ∈ ws, ∃ j, id ≤ j ∧ p.1 = .r j) ∧ ∃ g', Sat F (push ws σ) a w g' ∧ g.le g' ∧ All2 (CellRep g' F.N w) (zs.map zval) cs
  | [], _, id, cs, ws, hr => by
    have := run_ret hr
    cases this
    exact ⟨fun p hp => (by cases hp), g, h, g.le_refl, .nil⟩
  | z :: zs, hn, id, cs, ws, hr => by
    obtain ⟨⟨cs', ws'⟩, h1, hr⟩ := run_bind_some hr
    obtain ⟨hk, g', hs, hle, hall⟩ := zeroR_ok h dp zs (fun k hk => hn k (List.mem_cons_of_mem _ hk)) (id + 1) cs' ws' h1
    split at hr
    · have := run_ret hr; cases this
      exact ⟨fun p hp => let ⟨j, hj, e⟩ := hk p hp; ⟨j, by omega, e⟩, g', hs, hle, .cons rfl hall⟩
    · have := run_ret hr; cases this
      exact ⟨fun p hp => let ⟨j, hj, e⟩ := hk p hp; ⟨j, by omega, e⟩, g', hs, hle, .cons rfl hall⟩
    · have := run_ret hr; cases this
      exact ⟨fun p hp => let ⟨j, hj, e⟩ := hk p hp; ⟨j, by omega, e⟩, g', hs, hle, .cons rfl hall⟩
    · rename_i k _
      obtain ⟨hno, hr⟩ := newLoc_ok hr
      have := run_ret hr; cases this
      have hno' : get (push ws' σ) (.r id) = .no := by
        rw [get_push_other fun p hp e => by
          obtain ⟨j, hj, e'⟩ := hk p hp
          rw [e'] at e; injection e with e; omega]
        exact hno
      have hex : ∃ e, ekOf F.ek k = some e := Option.isSome_iff_exists.1 (hn k List.mem_cons_self).2
      obtain ⟨e, he⟩ := hex
      have hs' := hs.newRowL hno' (fr := true) (d := Row.nil (upK dp k)) (v := .slice none 0 0) (by rw [nil_kindU (hn k List.mem_cons_self).1, upK_ek]; exact he) (l := []) (nil_own w _ e _) (nil_obk w _) (fun b hb => by cases hb)
      have hnd : ¬ g'.dr id := fun hd => (hs.dr id hd).1 hno'
      have hle' := g'.setR_le hnd (.slice none 0 0) (Row.nil (upK dp k))
      have hsw : Sat F (push ((.r id, .row true true (Row.nil (upK dp k))) :: ws') σ) a w (g'.setR id (.slice none 0 0) (Row.nil (upK dp k))) := by
        refine hs'.ext fun l => ?_
        by_cases e : l = .r id
        · subst e
          rw [get_same, push_cons, get_push_other fun p hp e => by
            obtain ⟨j, hj, e'⟩ := hk p hp
            rw [e'] at e; injection e with e; omega]
          exact get_same _ _ _
        · rw [get_other e]
          clear hs' hs hno' hall hnd hle' hle h1 hno hr
          show get (push ws' ((.r id, .row true true (Row.nil (upK dp k))) :: σ)) l = get (push ws' σ) l
          generalize Ct.row true true (Row.nil (upK dp k)) = c
          have : ∀ (ws : List (Loc × Ct)) (σ τ : St), (∀ l, l ≠ Loc.r id → get σ l = get τ l) → get (push ws σ) l = get (push ws τ) l := by
            intro ws
            induction ws with
            | nil => intro σ τ h; exact h l e
            | cons x ws ih => intro σ τ h; exact ih _ _ fun m hm => by rw [get_cons, get_cons, h m hm]
          exact this ws' _ _ fun m hm => get_other hm _ _
      refine ⟨fun p hp => ?_, _, hsw, hle.le_trans hle', .cons ⟨.inr rfl, (if_pos rfl).symm⟩ (hall.imp fun _ _ h' => h'.le hle')⟩
      rcases List.mem_cons.1 hp with rfl | hp
      · exact ⟨id, Nat.le_refl _, rfl⟩
      · obtain ⟨j, hj, e⟩ := hk p hp
        exact ⟨j, by omega, e⟩
theorem alloc_heap_new (w : World) (o : Obj) : (w.alloc o).heap[w.heap.size]? = some o := heap_alloc_new w o
/-- A new box in the world. -/
theorem Sat.allocBox (h : Sat F σ a w g) {id : Nat} (hid : get σ (.b id) = .no) {cs : List Cell} {us : List Value} (ty : TypeId) (hus : All2 (CellRep g F.N w) us cs) :
    Sat F ((.b id, .box cs) :: σ) a (w.alloc (.cells us.toArray ty)) (g.setB id w.heap.size) ∧ g.le (g.setB id w.heap.size) := by
  have hnd : ¬ g.db id := fun hd => h.db id hd hid
  have hc := Chg.alloc (fun _ => False) w (.cells us.toArray ty)
  have hp := h.fresh (Nat.le_refl w.heap.size)
  have h' := h.world hc fun _ _ hx => hx.elim
  exact ⟨h'.newBox hid (heap_alloc_new w _) (hus.imp fun _ _ hu => hu.chg hc (fun _ _ h => h) g.le_refl) hp, g.setB_le hnd _⟩
theorem cellsOf_ok (h : Sat F σ a w g) {x : AV} {u : Value} {cs : List Cell} (hx : AVRep g F.N w u x) (hr : (cellsOf x).run (get σ) = some cs) : All2 (CellRep g F.N w) u.cells.toList cs ∧ (u.cells.all (·.oneCell') = true → True) := by
  refine ⟨?_, fun _ => trivial⟩
  unfold cellsOf at hr
  split at hr
  · split at hr
    · obtain rfl := run_ret hr
      obtain rfl := (hx : u = _)
      exact .cons rfl .nil
    · obtain rfl := run_ret hr
      obtain rfl := (hx : u = _)
      exact .cons rfl .nil
    · obtain rfl := run_ret hr
      obtain rfl := (hx : u = _)
      exact .cons rfl .nil
    · obtain rfl := run_ret hr
      have hx' := hx
      obtain ⟨A, cap, rfl, _⟩ := hx'
      exact .cons hx .nil
    · have hr' := run_ask hr
      split at hr'
      · rename_i own fr d hd
        obtain rfl := run_ret hr'
        obtain ⟨A, cap, e, _⟩ := h.rowLookS hd
        have hx' := hx
        obtain ⟨_, hu⟩ := hx'
        rw [e] at hu
        subst hu
        exact .cons hx .nil
      · cases hr'
    · cases hr
  · rename_i cs'
    obtain rfl := run_ret hr
    obtain ⟨us, rfl, hall⟩ := hx
    exact hall
  · cases hr
end
end Vx
/- The operations: what writes. -/
namespace Vx
open Go Go.RowKit

section
variable {P : Program} {cx : Cx} {F : Fr} {σ : St} {a : Act} {w : World} {g : Gm}
theorem cell_one (h : Sat F σ a w g) {u : Value} {c : Cell} (hu : CellRep g F.N w u c) (ho : oneC c = true) : u.oneCell' = true := by
  cases c with
  | sc v =>
    obtain rfl := (hu : u = v)
    cases u <;> first | rfl | cases ho
  | ro fr d => obtain ⟨A, cap, rfl, _⟩ := hu; rfl
  | ref i =>
    obtain ⟨h1, h2⟩ := hu
    obtain ⟨A, l, c, e⟩ := (h.dr i h1).2
    rw [e] at h2
    subst h2
    rfl
theorem all_one (h : Sat F σ a w g) {us : List Value} {cs : List Cell} (hu : All2 (CellRep g F.N w) us cs) (ho : cs.all oneC = true) : ∀ v ∈ us, v.oneCell' = true := by
  induction hu with
  | nil => intro v hv; cases hv
  | cons h1 t ih =>
    simp only [List.all_cons, Bool.and_eq_true] at ho
    intro v hv
    rcases List.mem_cons.1 hv with rfl | hv
    · exact cell_one h h1 ho.1
    · exact ih ho.2 v hv
theorem Chg.setRow (w : World) (n : Nat) (cs : Array Value) : Chg (fun j => j = n) w (w.setRow n cs) :=
  ⟨rfl, rfl, rfl, by simp [World.setRow], fun j _ hj => setRow_other w n j cs hj⟩
theorem All2.repl {α β : Type} {R : α → β → Prop} {as us : List α} {bs vs : List β} (h : All2 R as bs) (k : All2 R us vs) (off : Nat) : All2 R (as.take off ++ us ++ as.drop (off + us.length)) (replAt bs off vs) := by
  unfold replAt
  rw [← k.length]
  exact ((h.take off).append k).append (h.drop _)
/-- A store into a box. -/
theorem storeBox_ok (h : Sat F σ a w g) {t : TypeId} {ti : TI} (ht : TIok P t ti) {b off : Nat} {cs us : List Cell} (hb : get σ (.b b) = .box cs) {u v : Value} (hu : u = .pointer (some ⟨g.bb b, off, none⟩)) (hv : All2 (CellRep g F.N w) v.cells.toList us)
    (hl : us.length = ti.size) (hf : off + ti.size ≤ cs.length) (ho : us.all oneC = true) : ∃ w', (Instr.storeAt t u v).run P w = .ok () w' ∧ Sat F ((.b b, .box (replAt cs off us)) :: σ) a w' g := by
  subst hu
  obtain ⟨hb1, vs, ty, hb2, hb3, hb4, hb5⟩ := h.box b cs hb
  have hvl : v.cells.size = ti.size := by rw [← hl, ← hv.length]; simp
  have hlen := hb3.length
  have hrun := run_storeCells_at P (g.bb b) off ty v.cells.toList 0 vs.toArray w hb2 (by simp; omega) (all_one h hv ho)
  refine ⟨_, by simp [Instr.storeAt, Instr.sureAddr, storeVar, run_sizeOf' ht, hvl]; exact hrun, ?_⟩
  refine h.setBox (Chg.setRow w _ _) hb (fun j hj => hj) (us := vs.take off ++ v.cells.toList ++ vs.drop (off + v.cells.toList.length)) (ty := ty) ?_ ?_
  · have := setRow_heap w (g.bb b) vs.toArray (vs.take off ++ v.cells.toList ++ vs.drop (off + v.cells.toList.length)).toArray ty (0, 0) hb2
    simpa using this
  · have hc := Chg.setRow w (g.bb b) ((vs.take off ++ v.cells.toList ++ vs.drop (off + v.cells.toList.length)).toArray)
    have hg : ∀ j, g.G j → ¬ (j = g.bb b) := fun j hj e => hb4 (e ▸ hj)
    have := (hb3.repl hv off).imp fun _ _ hr => CellRep.chg hc hg g.le_refl hr
    simpa using this
/-- A cell that goes into an element. -/
theorem innerR_ok (h : Sat F σ a w g) {c : Cell} {u : Value} (hu : CellRep g F.N w u c) {xs : List Int} {fr : Bool} {fz : List (Loc × Ct)} (hr : (innerR c).run (get σ) = some (xs, fr, fz)) :
    ∃ g', Sat F (push fz σ) a w g' ∧ g.le g' ∧ g'.rv = g.rv ∧ DRep w (PG g' F.N fr) u (.ir xs) ∧ (∀ p ∈ fz, ∃ i fr d, p = (.r i, .row false fr d) ∧ (∃ o, get σ (.r i) = .row o fr d) ∧ c = .ref i) := by
  have conv : ∀ {Pj : Nat → Prop}, RowRep w Pj u (.ints .i64 xs) → DRep w Pj u (.ir xs) := fun {Pj} hh => by
    obtain ⟨A, cap, e1, e2, e3⟩ := hh
    refine ⟨A, cap, e1, e2, fun hl => ?_⟩
    obtain ⟨ad, ha, hb, hc⟩ := e3 hl
    refine ⟨ad, ha, hb, fun j hj => ?_⟩
    obtain ⟨x, hx1, hx2⟩ := hc j (.sc (.int .i64 (xs.getD j 0))) (by simp [Row.flat, List.getD_eq_getElem?_getD, List.getElem?_eq_getElem hj])
    rw [hx1, hx2]
  unfold innerR at hr
  split at hr
  · have := run_ret hr
    cases this
    exact ⟨g, h, g.le_refl, rfl, conv hu, fun p hp => (by cases hp)⟩
  · rename_i i
    have hr' := run_ask hr
    split at hr'
    · rename_i own fr' ys hd
      have := run_ret hr'
      cases this
      obtain ⟨hu1, rfl⟩ := hu
      have hmem : ∀ p ∈ [((Loc.r i, Ct.row false fr (Row.ints .i64 xs)) : Loc × Ct)], ∃ i' fr' d, p = (.r i', .row false fr' d) ∧ (∃ o, get σ (.r i') = .row o fr' d) ∧ Cell.ref i = .ref i' := fun p hp => by
        simp only [List.mem_singleton] at hp
        exact ⟨i, fr, _, hp, ⟨own, hd⟩, rfl⟩
      cases own with
      | true =>
        obtain ⟨g', hs, hle, ⟨hrv, _⟩, _⟩ := h.freeze hd
        obtain ⟨_, _, hrow⟩ := hs.row i false fr _ (get_same _ _ _)
        refine ⟨g', hs, hle, hrv, conv ?_, hmem⟩
        rw [hrv] at hrow
        exact hrow
      | false =>
        obtain ⟨_, _, hrow⟩ := h.row i _ _ _ hd
        refine ⟨g, h.ext fun l => ?_, g.le_refl, rfl, conv hrow, hmem⟩
        show get ((Loc.r i, Ct.row false fr (Row.ints .i64 xs)) :: σ) l = get σ l
        by_cases e : l = .r i
        · subst e; rw [get_same, hd]
        · exact get_other e _ _
    · cases hr'
  · cases hr
theorem get_push_cong {ws : List (Loc × Ct)} {σ τ : St} {l : Loc} (h : get σ l = get τ l) : get (push ws σ) l = get (push ws τ) l := by
  induction ws generalizing σ τ with
  | nil => exact h
  | cons x ws ih => exact ih (by rw [get_cons, get_cons, h])
/-- The freezing of a row is a weaker state; reading the same locations again. -/
theorem get_push_frozen {σ : St} {fz : List (Loc × Ct)} (hf : ∀ p ∈ fz, ∃ i fr d, p = (.r i, .row false fr d) ∧ ∃ o, get σ (.r i) = .row o fr d) (l : Loc) : get (push fz σ) l = get σ l ∨ ∃ i fr d, l = .r i ∧ get (push fz σ) l = .row false fr d ∧ ∃ o, get σ (.r i) = .row o fr d := by
  have key : ∀ (fz : List (Loc × Ct)) (τ : St), (∀ p ∈ fz, ∃ i fr d, p = (.r i, .row false fr d) ∧ ∃ o, get σ (.r i) = .row o fr d) → (get τ l = get σ l ∨ ∃ i fr d, l = .r i ∧ get τ l = .row false fr d ∧ ∃ o, get σ (.r i) = .row o fr d) →
      (get (push fz τ) l = get σ l ∨ ∃ i fr d, l = .r i ∧ get (push fz τ) l = .row false fr d ∧ ∃ o, get σ (.r i) = .row o fr d) := by
    intro fz
    induction fz with
    | nil => intro τ _ h; exact h
    | cons p fz ih =>
      intro τ hf h
      refine ih _ (fun q hq => hf q (List.mem_cons_of_mem _ hq)) ?_
      obtain ⟨i, fr, d, rfl, o, ho⟩ := hf p List.mem_cons_self
      by_cases e : l = .r i
      · subst e; exact .inr ⟨i, fr, d, rfl, get_same _ _ _, o, ho⟩
      · rw [get_other e]; exact h
  exact key fz σ hf (.inl rfl)
/-- What an element's flat cells become. -/
theorem flat_setI (k : IntKind) (xs : List Int) (e : Nat) (n : Int) : (Row.ints k (xs.set e n)).flat = (Row.ints k xs).flat.set e (.sc (.int k n)) := by
  simp [Row.flat, List.map_set]
theorem flat_setA (k : IntKind) (xs : List Int) (e : Nat) (n : Int) : (Row.arr k (xs.set e n)).flat = (Row.arr k xs).flat.set e (.sc (.int k n)) := by
  simp [Row.flat, List.map_set]
theorem flat_setS (xs : List ByteArray) (e : Nat) (s : ByteArray) : (Row.strs (xs.set e s)).flat = (Row.strs xs).flat.set e (.sc (.string s)) := by
  simp [Row.flat, List.map_set]
theorem flat_setE (xs : List (List Int × ByteArray)) (e : Nat) (p : List Int × ByteArray) (he : e < xs.length) : (Row.eqs (xs.set e p)).flat = ((Row.eqs xs).flat.set (e * 2) (.ir p.1)).set (e * 2 + 1) (.sc (.string p.2)) := by
  simp only [Row.flat]
  induction xs generalizing e with
  | nil => simp at he
  | cons x xs ih =>
    cases e with
    | zero => simp
    | succ e =>
      have := ih e (by simpa using he)
      simp only [List.set_cons_succ, List.flatMap_cons, this]
      simp [Nat.succ_mul, List.set_append]
end
end Vx
/- The operations: stores into rows. -/
namespace Vx
open Go Go.RowKit

section
variable {P : Program} {cx : Cx} {F : Fr} {σ : St} {a : Act} {w : World} {g : Gm}
theorem PG.and_l {g : Gm} {N : Nat → Prop} {x y : Bool} {j : Nat} (h : PG g N x j) : PG g N (x && y) j := ⟨h.1, fun e => h.2 (by cases x <;> simp_all)⟩
theorem PG.and_r {g : Gm} {N : Nat → Prop} {x y : Bool} {j : Nat} (h : PG g N y j) : PG g N (x && y) j := ⟨h.1, fun e => h.2 (by cases x <;> simp_all)⟩
/-- Cells written in a row whose mark, if it has one, lies behind them. -/
theorem run_storeM (P : Program) (b o : Nat) (t : TypeId) (fz : Nat × Nat) : ∀ (vs : List Value) (i : Nat) (cur : Array Value) (w : World), w.heap[b]? = some (.cells cur t fz) → (fz = (0, 0) ∨ cur.size ≤ fz.1) → o + i + vs.length ≤ cur.size → (∀ v ∈ vs, v.oneCell' = true) →
    (storeCells ⟨b, o, none⟩ vs i).run P w = .ok () (w.setRow b (cur.toList.take (o + i) ++ vs ++ cur.toList.drop (o + i + vs.length)).toArray)
  | [], i, cur, w, hg, _, _, _ => by
    have e := setRow_self w b cur t fz hg
    simp only [storeCells, List.append_nil, List.length_nil, Nat.add_zero, List.take_append_drop, Array.toArray_toList]
    rw [e]; rfl
  | v :: rest, i, cur, w, hg, hz, hl, h1 => by
    have hi : o + i < cur.size := by simp at hl; omega
    have ha : (⟨b, o, none⟩ : Addr).add i = ⟨b, o + i, none⟩ := by unfold Addr.add; split <;> simp_all
    have hc : w.cell? ⟨b, o + i, none⟩ = some cur[o + i] := by simp [World.cell?, hg, hi]
    have hf : w.frozen? ⟨b, o + i, none⟩ = false := by
      obtain ⟨lo, up⟩ := fz
      rcases hz with hz | hz
      · cases hz; simp [World.frozen?, hg]
      · simp only at hz
        simp only [World.frozen?, hg, Bool.and_eq_false_iff, decide_eq_false_iff_not]
        exact .inl (by omega)
    have hs : (store ((⟨b, o, none⟩ : Addr).add i) v).run P w = .ok () (w.setRow b (cur.setIfInBounds (o + i) v)) := by
      rw [ha, run_store P w _ v _ (h1 v (by simp)), hc]
      simp [hf, setCell_eq_setRow w b (o + i) cur t fz v hg]
    have ih := run_storeM P b o t fz rest (i + 1) (cur.setIfInBounds (o + i) v) (w.setRow b (cur.setIfInBounds (o + i) v)) (setRow_heap w b cur _ t _ hg) (by simpa using hz) (by simp at hl ⊢; omega) fun x hx => h1 x (by simp [hx])
    simp only [storeCells, Sem.run_bind, hs, Result.andThen_ok, ih, setRow_setRow]
    congr 3
    simpa [Array.toList_setIfInBounds, Nat.add_assoc] using list_seg_step cur.toList (o + i) v rest (by simp at hl ⊢; omega)
theorem owns_store {m : Bool} {e : TypeId} {size n len cap : Nat} {v : Value} {xs us : List Value} {ad : Addr} (ho : ownsM w m e size v n xs) (hv : v = .slice (some ad) len cap) {p : Nat} (hp : p + us.length ≤ n * size) (h1 : ∀ u ∈ us, u.oneCell' = true) :
    ∃ w', (storeCells (ad.add p) us 0).run P w = .ok () w' ∧ ownsM w' m e size v n (replAt xs p us) ∧ Chg (fun j => v.ownBlock = some j) w w' := by
  rcases ho.2 with ⟨rfl, _⟩ | ⟨b, cap', cur, fz, rfl, hg, hfz, hn, hm, hs, ht⟩
  · cases hv
  · injection hv with hv _ _
    injection hv with hv
    subst hv
    have hadd : (⟨b, 0, none⟩ : Addr).add p = ⟨b, p, none⟩ := by unfold Addr.add; split <;> simp_all
    have hns : n * size ≤ cur.size := by rw [hs]; exact Nat.mul_le_mul_right _ hn
    have hrun := run_storeM P b p e fz us 0 cur w hg (hfz.imp (fun h => h) fun h => h.2) (by omega) h1
    rw [hadd]
    refine ⟨_, hrun, ⟨?_, .inr ⟨b, cap', _, fz, rfl, setRow_heap w b cur _ e fz hg, hfz.imp (fun h => h) fun h => ⟨h.1, ?_⟩, hn, hm, ?_, ?_⟩⟩, (Chg.setRow w b _).mono fun j _ hj => (by rw [hj]; rfl)⟩
    · have := ho.1
      simp only [replAt, List.length_append, List.length_take, List.length_drop]
      omega
    · have := h.2
      simp only [List.size_toArray, List.length_append, List.length_take, List.length_drop, Array.length_toList]
      omega
    · simp only [List.size_toArray, List.length_append, List.length_take, List.length_drop, Array.length_toList]
      omega
    · rw [← ht]
      unfold replAt
      simp only [Nat.add_zero]
      rw [List.take_append, List.take_append]
      simp only [List.length_append, List.length_take, Array.length_toList, List.take_take]
      have e1 : min p cur.size = p := by omega
      have e2 : min (n * size) p = p := by omega
      have e3 : min p (n * size) = p := by omega
      simp only [e1, e2, e3]
      congr 1
      · congr 1
        exact List.take_of_length_le (by omega)
      · rw [List.take_drop, List.drop_take]
        congr 1
        have : p + us.length + (n * size - (p + us.length)) = n * size := by omega
        rw [this, List.drop_take]
theorem isB_kind {d d' : Row} (h : d'.kind = d.kind) : d'.isB = d.isB := by
  cases d with
  | ints k xs => cases d' with
    | ints k' xs' => have : k' = k := by injection h
                     subst this; cases k' <;> rfl
    | _ => cases h
  | _ => cases d' with
    | ints k' xs' => cases h
    | _ => rfl
theorem repl_get {α : Type} {cs us : List α} {p : Nat} (hp : p + us.length ≤ cs.length) {j : Nat} {c : α} (hj : (replAt cs p us)[j]? = some c) : (p ≤ j ∧ us[j - p]? = some c) ∨ ((j < p ∨ p + us.length ≤ j) ∧ cs[j]? = some c) := by
  unfold replAt at hj
  by_cases h1 : j < p
  · rw [List.append_assoc, List.getElem?_append_left (by simp; omega), List.getElem?_take, if_pos h1] at hj
    exact .inr ⟨.inl h1, hj⟩
  · rw [List.append_assoc, List.getElem?_append_right (by simp; omega)] at hj
    have e : min p cs.length = p := by omega
    simp only [List.length_take, e] at hj
    by_cases h2 : j - p < us.length
    · rw [List.getElem?_append_left h2] at hj
      exact .inl ⟨by omega, hj⟩
    · rw [List.getElem?_append_right (by omega), List.getElem?_drop] at hj
      exact .inr ⟨.inr (by omega), by rw [← hj]; congr 1; omega⟩
theorem repl_get_in {α : Type} {cs us : List α} {p : Nat} (hp : p + us.length ≤ cs.length) {j : Nat} (h1 : p ≤ j) (h2 : j < p + us.length) : (replAt cs p us)[j]? = us[j - p]? := by
  unfold replAt
  have e : min p cs.length = p := by omega
  rw [List.append_assoc, List.getElem?_append_right (by simp; omega)]
  simp only [List.length_take, e]
  rw [List.getElem?_append_left (by omega)]
theorem repl_get_out {α : Type} {cs us : List α} {p : Nat} (hp : p + us.length ≤ cs.length) {j : Nat} (h : j < p ∨ p + us.length ≤ j) : (replAt cs p us)[j]? = cs[j]? := by
  unfold replAt
  have e : min p cs.length = p := by omega
  rcases h with h | h
  · rw [List.append_assoc, List.getElem?_append_left (by simp; omega), List.getElem?_take, if_pos h]
  · rw [List.append_assoc, List.getElem?_append_right (by simp; omega)]
    simp only [List.length_take, e]
    rw [List.getElem?_append_right (by omega), List.getElem?_drop]
    congr 1; omega
theorem deep_kind {d d' : Row} (h : d'.kind = d.kind) : d'.deep = d.deep := by
  cases d <;> cases d' <;> first | rfl | cases h
/-- Cells of a row of one's own, written: what the store does, and the state behind it. -/
theorem storeCells_ok (h : Sat F σ a w g) {i : Nat} {fr : Bool} {d : Row} (hdp : d.deep = false) (hi : get σ (.r i) = .row true fr d) {ad : Addr} {len cap : Nat} (hv : g.rv i = .slice (some ad) len cap) {p : Nat} {us : List Value} {ns : List DC} {fr' : Bool} {d' : Row}
    (hk : d'.kind = d.kind) (hw : d'.wd = d.wd) (hl : d'.len = d.len) (hfr : fr' = true → fr = true) (hf : d'.flat = replAt d.flat p ns) (hp : p + us.length ≤ d.len * d.wd) (hu : All2 (DRep w (PG g F.N fr')) us ns) (h1 : ∀ u ∈ us, u.oneCell' = true) :
    ∃ w', (storeCells (ad.add p) us 0).run P w = .ok () w' ∧ Sat F ((.r i, .row true fr' d') :: σ) a w' g := by
  obtain ⟨_, _, ⟨e, he, ⟨cs, ho, hc⟩, hkb⟩, hb⟩ := h.row i _ _ _ hi
  rw [rg_flat hdp] at hc
  obtain ⟨w', hr, ho', hch⟩ := owns_store (P := P) ho hv hp h1
  refine ⟨w', hr, h.setRow hch hi (fun j hj => hkb.out j hj) hdp ((deep_kind hk).trans hdp) hk hw hl hfr fun e' he' _ => ?_⟩
  have : e' = e := Option.some.inj (he'.symm.trans he)
  subst this
  have hlen := ho.1
  have hfl := flat_len d
  have hun := hu.length
  have hng : ∀ x, ∀ j, PG g F.N x j → ¬ (g.rv i).ownBlock = some j := fun x j hj e => (hb j (hkb.out j e)).1 hj.1
  refine ⟨replAt cs p us, by rw [hw, hl, isB_kind hk]; exact ho', fun j c hj => ?_⟩
  rw [hf] at hj
  rcases repl_get (by omega) hj with ⟨hj1, hj2⟩ | ⟨hj1, hj2⟩
  · have hlt := (List.getElem?_eq_some_iff.1 hj2).1
    obtain ⟨x, hx1, hx2⟩ := hu.get (j - p) c hj2
    refine ⟨x, ?_, hx2.chg hch (hng _) fun _ h => h⟩
    rw [repl_get_in (by omega) hj1 (by omega), hx1]
  · obtain ⟨x, hx1, hx2⟩ := hc j c hj2
    refine ⟨x, ?_, hx2.chg hch (hng _) fun k hk => ?_⟩
    · rw [repl_get_out (by omega) (by omega), hx1]
    · exact ⟨hk.1, fun e => hk.2 (hfr e)⟩
theorem replAt_one {α : Type} (l : List α) (e : Nat) (x : α) (he : e < l.length) : l.set e x = replAt l e [x] := by
  unfold replAt
  rw [List.set_eq_take_append_cons_drop, if_pos he]
  simp
theorem replAt_two {α : Type} (l : List α) (e : Nat) (x y : α) (he : e + 1 < l.length) : (l.set e x).set (e + 1) y = replAt l e [x, y] := by
  apply List.ext_getElem?
  intro j
  rw [List.getElem?_set, List.getElem?_set]
  by_cases h1 : j = e
  · subst h1
    rw [repl_get_in (by simp; omega) (Nat.le_refl _) (by simp), if_neg (by omega), if_pos rfl, if_pos (by omega)]
    simp
  · by_cases h2 : j = e + 1
    · subst h2
      rw [repl_get_in (by simp; omega) (by omega) (by simp), if_pos rfl, if_pos (by simp; omega)]
      simp
    · rw [repl_get_out (by simp; omega) (by simp; omega), if_neg (by omega), if_neg (by omega)]
/-- A store through a pointer into a row. -/
theorem storeRow_ok (h : Sat F σ a w g) {t : TypeId} {ti : TI} (ht : TIok P t ti) {i e off : Nat} {fr : Bool} {d : Row} (hdp : d.deep = false) (hi : get σ (.r i) = .row true fr d) {u v : Value} (hu : AVRep g F.N w u (.pr i e off)) {us : List Cell} (hv : All2 (CellRep g F.N w) v.cells.toList us)
    (hl : us.length = ti.size) {d' : Row} {fr2 : Bool} {fz : List (Loc × Ct)} (hr : (setR d e off us).run (get σ) = some (d', fr2, fz)) :
    ∃ w' g', (Instr.storeAt t u v).run P w = .ok () w' ∧ Sat F (push (fz ++ [(.r i, .row true (fr && fr2) d')]) σ) a w' g' := by
  obtain ⟨hu1, hu2, ad, len, cap, hu3, rfl, hu5⟩ := hu
  obtain ⟨hr1, ⟨hwd, hln⟩, hr3⟩ := h.row i _ _ _ hi
  have hvl : v.cells.size = ti.size := by rw [← hl, ← hv.length]; simp
  have hst : ∀ w', (storeCells (ad.add (e * g.wd i + off)) v.cells.toList 0).run P w = .ok () w' → (Instr.storeAt t (.pointer (some (ad.add (e * g.wd i + off)))) v).run P w = .ok () w' := fun w' hw => by
    simp [Instr.storeAt, Instr.sureAddr, storeVar, run_sizeOf' ht, hvl]; exact hw
  have hflen := flat_len d
  have hfr : (fr && fr2) = true → fr = true := by cases fr <;> simp
  -- no row is frozen
  have plain : ∀ (p : Nat) (ns : List DC), p = e * g.wd i + off → fz = [] → d'.kind = d.kind → d'.wd = d.wd → d'.len = d.len → d'.flat = replAt d.flat p ns → p + v.cells.toList.length ≤ d.len * d.wd → All2 (DRep w (PG g F.N (fr && fr2))) v.cells.toList ns → (∀ u ∈ v.cells.toList, u.oneCell' = true) →
      ∃ w' g', (Instr.storeAt t (.pointer (some (ad.add (e * g.wd i + off)))) v).run P w = .ok () w' ∧ Sat F (push (fz ++ [(.r i, .row true (fr && fr2) d')]) σ) a w' g' := fun p ns hp hfz hk hw hl2 hf hpl hall h1 => by
    subst hp hfz
    obtain ⟨w', e1, e2⟩ := storeCells_ok (P := P) h hdp hi hu3 (fr' := fr && fr2) hk hw hl2 hfr hf hpl hall h1
    exact ⟨w', g, hst w' e1, e2⟩
  have inner : ∀ (c : Cell) (xs : List Int) (fr3 : Bool) (fz' : List (Loc × Ct)) (ys : List (List Int × ByteArray)), d = .eqs ys → (innerR c).run (get σ) = some (xs, fr3, fz') → fz = fz' → fr2 = fr3 →
      ∀ (u0 : Value) (rest : List Value) (ns : List DC), v.cells.toList = u0 :: rest → CellRep g F.N w u0 c → d'.kind = d.kind → d'.wd = d.wd → d'.len = d.len → d'.flat = replAt d.flat (e * g.wd i + off) (.ir xs :: ns) → e * g.wd i + off + v.cells.toList.length ≤ d.len * d.wd → (∀ g', g.le g' → All2 (DRep w (PG g' F.N (fr && fr2))) rest ns) → (∀ u ∈ v.cells.toList, u.oneCell' = true) →
      ∃ w' g', (Instr.storeAt t (.pointer (some (ad.add (e * g.wd i + off)))) v).run P w = .ok () w' ∧ Sat F (push (fz ++ [(.r i, .row true (fr && fr2) d')]) σ) a w' g' := fun c xs fr3 fz' ys hd hin hfz hf3 u0 rest ns hve hu0 hk hw hl2 hf hpl hall h1 => by
    subst hfz hf3
    obtain ⟨g', hs, hle, hrv, hdr, hmem⟩ := innerR_ok h hu0 hin
    have hi' : get (push fz σ) (.r i) = .row true fr d := by
      rcases get_push_frozen (fun p hp => by
        obtain ⟨i', fr', d'', e1, e2, _⟩ := hmem p hp
        exact ⟨i', fr', d'', e1, e2⟩) (.r i) with h' | ⟨i', fr', d'', e1, e2, o, e3⟩
      · rw [h', hi]
      · injection e1 with e1
        subst e1
        rw [hi] at e3
        injection e3 with e4 e5 e6
        -- the frozen row is one of numbers
        exfalso
        unfold innerR at hin
        split at hin
        · have := run_ret hin; cases this
          rw [push_nil, hi] at e2
          cases e2
        · rename_i j
          have hin' := run_ask hin
          split at hin'
          · rename_i own fr4 zs hj
            have := run_ret hin'; cases this
            by_cases hij : Loc.r i = Loc.r j
            · injection hij with hij
              subst hij
              rw [hi, hd] at hj
              cases hj
            · have : get (push [(Loc.r j, Ct.row false fr2 (Row.ints .i64 xs))] σ) (.r i) = get σ (.r i) := get_other hij _ _
              rw [this, hi] at e2
              cases e2
          · cases hin'
        · cases hin
    obtain ⟨w', e1, e2⟩ := storeCells_ok (P := P) hs hdp hi' (by rw [hrv]; exact hu3) (p := e * g.wd i + off) (us := v.cells.toList) (fr' := fr && fr2) hk hw hl2 hfr hf hpl (by
      rw [hve]
      exact .cons (hdr.chg (Chg.refl (fun _ => False) w) (fun _ _ h => h) fun j hj => hj.and_r) (hall g' hle)) h1
    refine ⟨w', g', hst w' e1, ?_⟩
    rw [push_append]
    exact e2
  unfold setR at hr
  split at hr
  · rename_i k xs k' n
    obtain ⟨hk, hr⟩ := run_test hr
    have := run_ret hr
    cases this
    obtain rfl := IntKind.eqb_iff.1 hk
    simp only [Row.len] at hln
    have hwd1 : g.wd i = 1 := hwd
    cases hve : v.cells.toList with
    | nil => rw [hve] at hv; cases hv
    | cons u0 rest =>
      rw [hve] at hv
      cases hv with
      | cons hu0 hrest =>
        cases hrest
        obtain rfl := (hu0 : u0 = _)
        refine plain (e * g.wd i + 0) [.sc (.int k n)] rfl rfl rfl rfl (by simp [Row.len]) ?_ ?_ ?_ ?_
        · rw [flat_setI, replAt_one _ _ _ (by rw [hflen]; simp [Row.len, Row.wd]; omega), hwd1]; simp
        · rw [hve, hwd1]; simp [Row.len, Row.wd]; omega
        · rw [hve]; exact .cons rfl .nil
        · rw [hve]; intro u hu; simp at hu; subst hu; rfl
  · rename_i xs s
    have := run_ret hr
    cases this
    simp only [Row.len] at hln
    have hwd1 : g.wd i = 1 := hwd
    cases hve : v.cells.toList with
    | nil => rw [hve] at hv; cases hv
    | cons u0 rest =>
      rw [hve] at hv
      cases hv with
      | cons hu0 hrest =>
        cases hrest
        obtain rfl := (hu0 : u0 = _)
        refine plain (e * g.wd i + 0) [.sc (.string s)] rfl rfl rfl rfl (by simp [Row.len]) ?_ ?_ ?_ ?_
        · rw [flat_setS, replAt_one _ _ _ (by rw [hflen]; simp [Row.len, Row.wd]; omega), hwd1]; simp
        · rw [hve, hwd1]; simp [Row.len, Row.wd]; omega
        · rw [hve]; exact .cons rfl .nil
        · rw [hve]; intro u hu; simp at hu; subst hu; rfl
  · rename_i xs c
    obtain ⟨⟨zs, fr3, fz'⟩, hin, hr⟩ := run_bind_some hr
    have := run_ret hr
    cases this
    simp only [Row.len] at hln
    have hwd2 : g.wd i = 2 := hwd
    have he : e < xs.length := by omega
    cases hve : v.cells.toList with
    | nil => rw [hve] at hv; cases hv
    | cons u0 rest =>
      rw [hve] at hv
      cases hv with
      | cons hu0 hrest =>
        cases hrest
        refine inner c zs _ _ xs rfl hin rfl rfl u0 [] [] hve hu0 rfl rfl (by simp [Row.len]) ?_ ?_ (fun _ _ => .nil) ?_
        · rw [flat_setE _ _ _ he, hwd2, Nat.add_zero]
          have hx : (Row.eqs xs).flat[e * 2 + 1]? = some (.sc (.string (xs.getD e eqD).2)) := flat_cells (.eqs xs) (e := e) he 1 (by simp [Row.wd])
          rw [← replAt_one _ _ _ (by rw [hflen]; simp [Row.len, Row.wd]; omega)]
          apply List.ext_getElem?
          intro j
          rw [List.getElem?_set]
          split
          · rename_i hj
            subst hj
            rw [if_pos (by rw [List.length_set, hflen]; simp [Row.len, Row.wd]; omega), List.getElem?_set, if_neg (by omega), hx]
          · rfl
        · rw [hve, hwd2]; simp [Row.len, Row.wd]; omega
        · rw [hve]; intro u hu; simp at hu; subst hu
          cases c with
          | sc v => cases hin
          | ro fr' d' => obtain ⟨A, cap, rfl, _⟩ := hu0; rfl
          | ref i' =>
            obtain ⟨h1, h2⟩ := hu0
            obtain ⟨A, l, c, e⟩ := (h.dr i' h1).2
            rw [h2, e]; rfl
  · rename_i xs s
    have := run_ret hr
    cases this
    simp only [Row.len] at hln
    have hwd2 : g.wd i = 2 := hwd
    have he : e < xs.length := by omega
    cases hve : v.cells.toList with
    | nil => rw [hve] at hv; cases hv
    | cons u0 rest =>
      rw [hve] at hv
      cases hv with
      | cons hu0 hrest =>
        cases hrest
        obtain rfl := (hu0 : u0 = _)
        refine plain (e * g.wd i + 1) [.sc (.string s)] rfl rfl rfl rfl (by simp [Row.len]) ?_ ?_ ?_ ?_
        · rw [flat_setE _ _ _ he, hwd2]
          have hx : (Row.eqs xs).flat[e * 2 + 0]? = some (.ir (xs.getD e eqD).1) := flat_cells (.eqs xs) (e := e) he 0 (by simp [Row.wd])
          rw [← replAt_one _ _ _ (by rw [hflen]; simp [Row.len, Row.wd]; omega)]
          congr 1
          apply List.ext_getElem?
          intro j
          rw [List.getElem?_set]
          split
          · rename_i hj
            subst hj
            rw [if_pos (by rw [hflen]; simp [Row.len, Row.wd]; omega), ← hx]; rfl
          · rfl
        · rw [hve, hwd2]; simp [Row.len, Row.wd]; omega
        · rw [hve]; exact .cons rfl .nil
        · rw [hve]; intro u hu; simp at hu; subst hu; rfl
  · rename_i xs c s
    obtain ⟨⟨zs, fr3, fz'⟩, hin, hr⟩ := run_bind_some hr
    have := run_ret hr
    cases this
    simp only [Row.len] at hln
    have hwd2 : g.wd i = 2 := hwd
    have he : e < xs.length := by omega
    cases hve : v.cells.toList with
    | nil => rw [hve] at hv; cases hv
    | cons u0 rest =>
      rw [hve] at hv
      cases hv with
      | cons hu0 hrest =>
        cases hrest with
        | cons hu1' hr2 =>
          cases hr2
          rename_i u1
          obtain rfl := (hu1' : u1 = _)
          refine inner c zs _ _ xs rfl hin rfl rfl u0 [.string s] [.sc (.string s)] hve hu0 rfl rfl (by simp [Row.len]) ?_ ?_ (fun _ _ => .cons rfl .nil) ?_
          · rw [flat_setE _ _ _ he, hwd2, Nat.add_zero]
            exact replAt_two _ _ _ _ (by rw [hflen]; simp [Row.len, Row.wd]; omega)
          · rw [hve, hwd2]; simp [Row.len, Row.wd]; omega
          · rw [hve]; intro u hu
            simp at hu
            rcases hu with rfl | rfl
            · cases c with
              | sc v => cases hin
              | ro fr' d' => obtain ⟨A, cap, rfl, _⟩ := hu0; rfl
              | ref i' =>
                obtain ⟨h1, h2⟩ := hu0
                obtain ⟨A, l, c, e⟩ := (h.dr i' h1).2
                rw [h2, e]; rfl
            · rfl
  · rename_i k xs k' n
    obtain ⟨hk, hr⟩ := run_test hr
    have := run_ret hr
    cases this
    obtain rfl := IntKind.eqb_iff.1 hk
    simp only [Row.len] at hln
    have hwd1 : g.wd i = 1 := hwd
    cases hve : v.cells.toList with
    | nil => rw [hve] at hv; cases hv
    | cons u0 rest =>
      rw [hve] at hv
      cases hv with
      | cons hu0 hrest =>
        cases hrest
        obtain rfl := (hu0 : u0 = _)
        refine plain (e * g.wd i + 0) [.sc (.int k n)] rfl rfl (by simp [Row.kind]) rfl (by simp [Row.len]) ?_ ?_ ?_ ?_
        · rw [flat_setA, replAt_one _ _ _ (by rw [hflen]; simp [Row.len, Row.wd]; omega), hwd1]; simp
        · rw [hve, hwd1]; simp [Row.len, Row.wd]; omega
        · rw [hve]; exact .cons rfl .nil
        · rw [hve]; intro u hu; simp at hu; subst hu; rfl
  · cases hdp
  · cases hr
theorem cellInts_ok {k : IntKind} {G : Loc → Ct} : ∀ {us : List Cell} {vs : List Value} (_ : All2 (CellRep g F.N w) vs us) {ys : List Int} (_ : (cellInts k us).run G = some ys), ys.length = us.length ∧ vs = ys.map (Value.int k)
  | [], _, .nil, ys, h => by have := run_ret h; subst this; exact ⟨rfl, rfl⟩
  | .sc v :: cs, _, .cons hu ht, ys, h => by
    cases v with
    | int k' n =>
      obtain ⟨hk, h'⟩ := run_test h
      obtain ⟨zs, hz, h3⟩ := run_bind_some h'
      have := run_ret h3; subst this
      obtain rfl := IntKind.eqb_iff.1 hk
      obtain ⟨h1, h2⟩ := cellInts_ok ht hz
      exact ⟨by simp [h1], by rw [List.map_cons, ← h2]; exact congrArg (· :: _) hu⟩
    | _ => cases h
  | .ro _ _ :: _, _, _, ys, h => by cases h
  | .ref _ :: _, _, _, ys, h => by cases h
/-- A whole array is stored. -/
theorem storeArr_ok (h : Sat F σ a w g) {t : TypeId} {ti : TI} (ht : TIok P t ti) {i : Nat} {fr : Bool} {k : IntKind} {xs : List Int} (hi : get σ (.r i) = .row true fr (.arr k xs)) {u v : Value} (hu : AVRep g F.N w u (.ap i)) {us : List Cell} (hv : All2 (CellRep g F.N w) v.cells.toList us)
    (hl : us.length = ti.size) (hx : us.length = xs.length) {ys : List Int} (hr : (cellInts k us).run (get σ) = some ys) :
    ∃ w', (Instr.storeAt t u v).run P w = .ok () w' ∧ Sat F ((.r i, .row true fr (.arr k ys)) :: σ) a w' g := by
  obtain ⟨hu1, ad, len, cap, hu3, rfl, hu5⟩ := hu
  have hvl : v.cells.size = ti.size := by rw [← hl, ← hv.length]; simp
  obtain ⟨h1, h2⟩ := cellInts_ok hv hr
  obtain ⟨w', e1, e2⟩ := storeCells_ok (P := P) h rfl hi hu3 (p := 0) (us := v.cells.toList) (ns := ys.map fun n => .sc (.int k n)) (fr' := fr) (d' := .arr k ys) (by show RK.arr k ys.length = RK.arr k xs.length; rw [h1, hx]) rfl (by show ys.length = xs.length; omega) id
    (by
      have : (xs.map fun x => DC.sc (Value.int k x)).length ≤ (ys.map fun n => DC.sc (Value.int k n)).length := by simp; omega
      simp only [Row.flat, replAt, List.take_zero, List.nil_append, Nat.zero_add]
      rw [List.drop_eq_nil_of_le this, List.append_nil])
    (by rw [hv.length]; show 0 + us.length ≤ xs.length * 1; omega)
    (by
      rw [h2]
      apply All2.map_right
      apply All2.of_get (by simp)
      intro j x y hx hy
      rw [List.getElem?_map, hy] at hx
      cases hx
      rfl)
    (by rw [h2]; intro u hu; obtain ⟨n, _, rfl⟩ := List.mem_map.1 hu; rfl)
  refine ⟨w', ?_, e2⟩
  have e : ad.add 0 = ad := rfl
  rw [e] at e1
  simp [Instr.storeAt, Instr.sureAddr, storeVar, run_sizeOf' ht, hvl]
  exact e1
end
end Vx
/- Rows of equations that are owned together with their inner rows. -/
namespace Vx
open Go Go.RowKit

theorem ownsM_eq {w : World} {m m' : Bool} {e e' : TypeId} {size n : Nat} {v : Value} {xs ys : List Value} (h : ownsM w m e size v n xs) (k : ownsM w m' e' size v n ys) : xs = ys := by
  rcases h.2 with ⟨hv, hn⟩ | ⟨g, cap, cur, fz, hv, hg, _, _, _, _, ht⟩
  · have h1 : xs.length = 0 := by rw [h.1, hn, Nat.zero_mul]
    have h2 : ys.length = 0 := by rw [k.1, hn, Nat.zero_mul]
    rw [List.eq_nil_of_length_eq_zero h1, List.eq_nil_of_length_eq_zero h2]
  · rcases k.2 with ⟨hv', _⟩ | ⟨g', cap', cur', fz', hv', hg', _, _, _, _, ht'⟩
    · rw [hv] at hv'; cases hv'
    · rw [hv] at hv'
      cases hv'
      rw [hg] at hg'
      cases hg'
      rw [← ht, ← ht']
theorem own_ints {w : World} {B : Nat → Prop} {e : TypeId} {u : Value} {l : List Int} (h : OwnRep w B e u (.ints .i64 l)) : ownsM w false e 1 u l.length (l.map (Value.int .i64)) := by
  obtain ⟨cs, h1, h2⟩ := h
  have hl : cs.length = l.length := (h1.1).trans (Nat.mul_one _)
  have hc : cs = l.map (Value.int .i64) := by
    apply List.ext_getElem?
    intro j
    by_cases hj : j < l.length
    · obtain ⟨a, ha, hr⟩ := h2 j (.sc (.int .i64 l[j])) (by simp [Row.flat, hj])
      rw [ha, (hr : a = _)]
      simp [hj]
    · rw [List.getElem?_eq_none (by omega), List.getElem?_eq_none (by rw [List.length_map]; omega)]
  rw [hc] at h1
  exact h1
theorem ints_own {w : World} {B : Nat → Prop} {e : TypeId} {u : Value} {l : List Int} (h : ownsM w false e 1 u l.length (l.map (Value.int .i64))) : OwnRep w B e u (.ints .i64 l) :=
  ⟨_, h, fun j c hj => by
    simp only [Row.flat, List.getElem?_map, Option.map_eq_some_iff] at hj ⊢
    obtain ⟨x, hx, rfl⟩ := hj
    exact ⟨_, ⟨x, hx, rfl⟩, rfl⟩⟩
theorem ownsM_ir {w : World} {e : TypeId} {u : Value} {xs : List Int} (h : ownsM w false e 1 u xs.length (xs.map (Value.int .i64))) {Q : Nat → Prop} (hq : ∀ b, u.ownBlock = some b → Q b) : DRep w Q u (.ir xs) := by
  have hcell := fun {g} (hg : u.ownBlock = some g) => ownsM_cells h (g := g) hg
  have hsh : (u = .slice none 0 0 ∧ xs.length = 0) ∨ ∃ g cap, u = .slice (some ⟨g, 0, none⟩) xs.length cap ∧ xs.length ≤ cap := by
    rcases h.2 with h | ⟨g, cap, cur, fz, h, _, _, hl, _⟩
    · exact .inl h
    · exact .inr ⟨g, cap, h, hl⟩
  rcases hsh with ⟨rfl, hn⟩ | ⟨g, cap, rfl, hl⟩
  · exact ⟨none, 0, by rw [hn], by omega, fun hp => by omega⟩
  · refine ⟨_, cap, rfl, hl, fun _ => ⟨_, rfl, hq g rfl, fun j hj => hcell rfl j _ ?_⟩⟩
    rw [List.getElem?_map, List.getElem?_eq_getElem hj, List.getD_eq_getElem?_getD, List.getElem?_eq_getElem hj]
    rfl
/-- Cells of equations: the slices, the data. -/
def Pairs (cs us : List Value) (es : List (List Int × ByteArray)) : Prop := ∀ j, j < es.length → cs[2 * j]? = us[j]? ∧ cs[2 * j + 1]? = some (.string (es.getD j eqD).2)
structure DeepRep (w : World) (e : TypeId) (u : Value) (es : List (List Int × ByteArray)) (l : List Nat) (cs us : List Value) : Prop where
  own : ownsM w false e 2 u es.length cs
  prs : Pairs cs us es
  inn : Inn w us es
  blk : l = u.ownBlock.toList ++ us.filterMap Value.ownBlock
  nd : l.Nodup
theorem DeepRep.of {w : World} {P : Nat → Prop} {e : TypeId} {u : Value} {es : List (List Int × ByteArray)} {l : List Nat} (ho : OwnRep w P e u (.deqs es)) (hk : Obk w u (.deqs es) l) : ∃ cs us, DeepRep w e u es l cs us := by
  obtain ⟨cs, h1, h2⟩ := ho
  obtain ⟨e', cs', us, k1, k2, k3, k4, k5⟩ := hk
  have hc : cs' = cs := ownsM_eq k1 h1
  subst hc
  refine ⟨cs', us, h1, fun j hj => ⟨k2 j hj, ?_⟩, k3, k4, k5⟩
  have hf : (Row.deqs es).flat[j * 2 + 1]? = some (.sc (.string (es.getD j eqD).2)) := flat_cells (.deqs es) (e := j) hj 1 (by simp [Row.wd])
  obtain ⟨x, hx1, hx2⟩ := h2 _ _ hf
  rw [Nat.mul_comm 2 j, hx1, (hx2 : x = _)]
theorem DeepRep.mk' {w : World} {e : TypeId} {u : Value} {es : List (List Int × ByteArray)} {l : List Nat} {cs us : List Value} (h : DeepRep w e u es l cs us) (P : Nat → Prop) : OwnRep w (rg P (.deqs es) l) e u (.deqs es) ∧ Obk w u (.deqs es) l := by
  refine ⟨⟨cs, h.own, fun j c hj => ?_⟩, e, cs, us, h.own, fun j hj => (h.prs j hj).1, h.inn, h.blk, h.nd⟩
  have hlt : j < es.length * 2 := by
    have := (List.getElem?_eq_some_iff.1 hj).1
    rw [flat_len] at this
    exact this
  have hlt2 : j / 2 < es.length := by omega
  have hf := flat_cells (.deqs es) (e := j / 2) hlt2 (j % 2) (Nat.mod_lt _ (by decide))
  have hjj : j / 2 * 2 + j % 2 = j := by omega
  have hwd : (Row.deqs es).wd = 2 := rfl
  rw [hwd, hjj, hj] at hf
  obtain ⟨p1, p2⟩ := h.prs (j / 2) hlt2
  have h01 : j % 2 = 0 ∨ j % 2 = 1 := by omega
  rcases h01 with h01 | h01
  · rw [h01] at hf
    simp only [Row.cells, List.getElem?_cons_zero, Option.some.injEq] at hf
    subst hf
    have hul : j / 2 < us.length := by rw [h.inn.1]; exact hlt2
    obtain ⟨e', hin⟩ := h.inn.2 (j / 2) us[j / 2] (List.getElem?_eq_getElem hul)
    refine ⟨us[j / 2], ?_, ownsM_ir hin fun b hb => ?_⟩
    · exact (congrArg (fun k => cs[k]?) (show j = 2 * (j / 2) by omega)).trans (p1.trans (List.getElem?_eq_getElem hul))
    · show rg P (.deqs es) l b
      unfold rg
      show b ∈ l
      rw [h.blk]
      exact List.mem_append_right _ (List.mem_filterMap.2 ⟨_, List.getElem_mem hul, hb⟩)
  · rw [h01] at hf
    simp only [Row.cells, List.getElem?_cons_succ, List.getElem?_cons_zero, Option.some.injEq] at hf
    subst hf
    exact ⟨_, (congrArg (fun k => cs[k]?) (show j = 2 * (j / 2) + 1 by omega)).trans p2, rfl⟩
theorem Pairs.append {cs us cs' us' : List Value} {es es' : List (List Int × ByteArray)} (h : Pairs cs us es) (h' : Pairs cs' us' es') (hc : cs.length = es.length * 2) (hu : us.length = es.length) : Pairs (cs ++ cs') (us ++ us') (es ++ es') := fun k hk => by
  rw [List.length_append] at hk
  by_cases hlt : k < es.length
  · rw [List.getElem?_append_left (by omega), List.getElem?_append_left (by omega), List.getElem?_append_left (by omega), List.getD_eq_getElem?_getD, List.getElem?_append_left hlt, ← List.getD_eq_getElem?_getD]
    exact h k hlt
  · rw [List.getElem?_append_right (by omega), List.getElem?_append_right (by omega), List.getElem?_append_right (by omega), List.getD_eq_getElem?_getD, List.getElem?_append_right (by omega), ← List.getD_eq_getElem?_getD]
    obtain ⟨q1, q2⟩ := h' (k - es.length) (by omega)
    rw [hc, hu]
    exact ⟨(congrArg (fun k => cs'[k]?) (by omega)).trans q1, (congrArg (fun k => cs'[k]?) (by omega)).trans q2⟩
theorem Pairs.take {cs us : List Value} {es : List (List Int × ByteArray)} (h : Pairs cs us es) (i : Nat) : Pairs (cs.take (i * 2)) (us.take i) (es.take i) := fun k hk => by
  rw [List.length_take] at hk
  rw [List.getElem?_take, List.getElem?_take, List.getElem?_take, if_pos (by omega), if_pos (by omega), if_pos (by omega), List.getD_eq_getElem?_getD, List.getElem?_take, if_pos (by omega), ← List.getD_eq_getElem?_getD]
  exact h k (by omega)
theorem Pairs.drop {cs us : List Value} {es : List (List Int × ByteArray)} (h : Pairs cs us es) (i : Nat) : Pairs (cs.drop (i * 2)) (us.drop i) (es.drop i) := fun k hk => by
  rw [List.length_drop] at hk
  rw [List.getElem?_drop, List.getElem?_drop, List.getElem?_drop, List.getD_eq_getElem?_getD, List.getElem?_drop, ← List.getD_eq_getElem?_getD]
  obtain ⟨q1, q2⟩ := h (i + k) (by omega)
  exact ⟨(congrArg (fun k => cs[k]?) (by omega)).trans q1, (congrArg (fun k => cs[k]?) (by omega)).trans q2⟩
theorem Inn.append {w : World} {us us' : List Value} {es es' : List (List Int × ByteArray)} (h : Inn w us es) (h' : Inn w us' es') : Inn w (us ++ us') (es ++ es') := by
  have hu := h.1
  refine ⟨by rw [List.length_append, List.length_append, h.1, h'.1], fun k x hx => ?_⟩
  by_cases hlt : k < es.length
  · rw [List.getElem?_append_left (by omega)] at hx
    rw [List.getD_eq_getElem?_getD, List.getElem?_append_left hlt, ← List.getD_eq_getElem?_getD]
    exact h.2 k x hx
  · rw [List.getElem?_append_right (by omega), hu] at hx
    rw [List.getD_eq_getElem?_getD, List.getElem?_append_right (by omega), ← List.getD_eq_getElem?_getD]
    exact h'.2 _ x hx
theorem Inn.take {w : World} {us : List Value} {es : List (List Int × ByteArray)} (h : Inn w us es) (i : Nat) : Inn w (us.take i) (es.take i) := by
  refine ⟨by rw [List.length_take, List.length_take, h.1], fun k x hx => ?_⟩
  rw [List.getElem?_take] at hx
  split at hx
  · rename_i hk
    rw [List.getD_eq_getElem?_getD, List.getElem?_take, if_pos hk, ← List.getD_eq_getElem?_getD]
    exact h.2 k x hx
  · cases hx
theorem Inn.drop {w : World} {us : List Value} {es : List (List Int × ByteArray)} (h : Inn w us es) (i : Nat) : Inn w (us.drop i) (es.drop i) := by
  refine ⟨by rw [List.length_drop, List.length_drop, h.1], fun k x hx => ?_⟩
  rw [List.getElem?_drop] at hx
  rw [List.getD_eq_getElem?_getD, List.getElem?_drop, ← List.getD_eq_getElem?_getD]
  exact h.2 _ x hx
/-- The cells are cells. -/
theorem DeepRep.one {w : World} {e : TypeId} {u : Value} {es : List (List Int × ByteArray)} {l : List Nat} {cs us : List Value} (D : DeepRep w e u es l cs us) : ∀ x ∈ cs, x.oneCell' = true := fun x hx => by
  obtain ⟨k, hkx⟩ := List.getElem?_of_mem hx
  have hlt : k < es.length * 2 := by rw [← D.own.1]; exact (List.getElem?_eq_some_iff.1 hkx).1
  obtain ⟨q1, q2⟩ := D.prs (k / 2) (by omega)
  have h01 : k % 2 = 0 ∨ k % 2 = 1 := by omega
  rcases h01 with h01 | h01
  · have hk2 : us[k / 2]? = some x := q1.symm.trans ((congrArg (fun k => cs[k]?) (show 2 * (k / 2) = k by omega)).trans hkx)
    obtain ⟨e', ho⟩ := D.inn.2 _ _ hk2
    rcases ho.2 with ⟨rfl, _⟩ | ⟨g', cap, _, _, rfl, _⟩ <;> rfl
  · have hk2 := (congrArg (fun k => cs[k]?) (show 2 * (k / 2) + 1 = k by omega)).symm.trans q2
    rw [hkx] at hk2
    cases hk2
    rfl
theorem DeepRep.apart {w : World} {e : TypeId} {u : Value} {es : List (List Int × ByteArray)} {l : List Nat} {cs us : List Value} (D : DeepRep w e u es l cs us) : ∀ b, b ∈ us.filterMap Value.ownBlock → ¬ u.ownBlock = some b := fun b hb e => by
  have := D.nd
  rw [D.blk, e] at this
  exact (List.nodup_cons.1 (show (b :: us.filterMap Value.ownBlock).Nodup from this)).1 hb
theorem DeepRep.lt {w : World} {e : TypeId} {u : Value} {es : List (List Int × ByteArray)} {l : List Nat} {cs us : List Value} (D : DeepRep w e u es l cs us) : ∀ b ∈ l, b < w.heap.size := fun b hb => by
  obtain ⟨h1, h2⟩ := D.mk' fun _ => True
  exact h2.lt h1 b hb
theorem nodup_mid {own A B o : List Nat} (h : (own ++ (A ++ B)).Nodup) (ho : o.Nodup) (hd : ∀ b ∈ o, b ∉ own ++ (A ++ B)) : (own ++ (A ++ (o ++ B))).Nodup := by
  grind
theorem nodup_drop {own A B o : List Nat} (h : (own ++ (A ++ (o ++ B))).Nodup) : (own ++ (A ++ B)).Nodup := by
  grind
theorem filterMap_mid {α β : Type} (f : α → Option β) (A B : List α) (x : α) : (A ++ x :: B).filterMap f = A.filterMap f ++ ((f x).toList ++ B.filterMap f) := by
  rw [List.filterMap_append, List.filterMap_cons]
  cases f x <;> simp
theorem toList_nodup (o : Option Nat) : o.toList.Nodup := by cases o <;> simp
theorem nodup_set {own : List Nat} {us : List Value} {e : Nat} (he : e < us.length) {u0 : Value} (h : (own ++ us.filterMap Value.ownBlock).Nodup) (hu : ∀ b, u0.ownBlock = some b → b ∉ own ++ us.filterMap Value.ownBlock) : (own ++ (us.set e u0).filterMap Value.ownBlock).Nodup := by
  have e1 : us = us.take e ++ us[e] :: us.drop (e + 1) := by
    rw [← List.drop_eq_getElem_cons he, List.take_append_drop]
  rw [List.set_eq_take_append_cons_drop, if_pos he, filterMap_mid]
  rw [e1, filterMap_mid] at h
  refine nodup_mid (nodup_drop h) (toList_nodup _) fun b hb => ?_
  have hb' : u0.ownBlock = some b := by simpa using hb
  have := hu b hb'
  rw [e1, filterMap_mid] at this
  simp only [List.mem_append, not_or] at this ⊢
  exact ⟨this.1, this.2.1, this.2.2.2⟩
section
variable {P : Program} {cx : Cx} {F : Fr} {σ : St} {a : Act} {w w' : World} {g : Gm}
def Gm.setOb (g : Gm) (i : Nat) (l : List Nat) : Gm := { g with ob := fun j => if j = i then l else g.ob j }
theorem CellRep.setOb {N : Nat → Prop} {u : Value} {c : Cell} {i : Nat} {l : List Nat} (h : CellRep g N w u c) : CellRep (g.setOb i l) N w u c := by
  cases c <;> exact h
theorem V1Rep.setOb {N : Nat → Prop} {u : Value} {c : V1} {i : Nat} {l : List Nat} (h : V1Rep g N w u c) : V1Rep (g.setOb i l) N w u c := by
  cases c with
  | cell c => exact CellRep.setOb h
  | agg cs => obtain ⟨us, h1, h2⟩ := h; exact ⟨us, h1, h2.imp fun _ _ h => CellRep.setOb h⟩
theorem AVRep.setOb {N : Nat → Prop} {u : Value} {c : AV} {i : Nat} {l : List Nat} (h : AVRep g N w u c) : AVRep (g.setOb i l) N w u c := by
  cases c with
  | v x => exact V1Rep.setOb h
  | tup vs => obtain ⟨us, h1, h2⟩ := h; exact ⟨us, h1, h2.imp fun _ _ h => V1Rep.setOb h⟩
  | _ => exact h
/-- The blocks of a row that was given up are of no account. -/
theorem Sat.setOb (h : Sat F σ a w g) {i : Nat} (hi : ∀ fr d, get σ (.r i) ≠ .row true fr d) (l : List Nat) : Sat F σ a w (g.setOb i l) := by
  have ho : ∀ {j fr d}, get σ (.r j) = .row true fr d → (g.setOb i l).ob j = g.ob j := fun {j fr d} hj => if_neg fun e => hi fr d (by rw [← e]; exact hj)
  refine ⟨h.chg, h.base, h.defs, h.nts, fun t x hx => (h.tmp t x hx).setOb, fun j own fr d hj => ?_, fun b cs hb => ?_, h.dr, h.db, h.gb, fun j k f1 d1 f2 d2 b hjk hj hk => ?_, h.sepB, fun j b f1 d1 cs hj hb => ?_, h.pb, h.ga⟩
  · obtain ⟨h1, h2, h3⟩ := h.row j own fr d hj
    refine ⟨h1, h2, ?_⟩
    cases own with
    | true => rw [ho hj]; exact h3
    | false => exact h3
  · obtain ⟨h1, us, ty, h2, h3, h4⟩ := h.box b cs hb
    exact ⟨h1, us, ty, h2, h3.imp fun _ _ h => CellRep.setOb h, h4⟩
  · rw [ho hj, ho hk]; exact h.sepR j k f1 d1 f2 d2 b hjk hj hk
  · rw [ho hj]; exact h.sepRB j b f1 d1 cs hj hb
theorem Priv.setOb {b i : Nat} {l : List Nat} (h : Priv F σ g b) (hi : ∀ fr d, get σ (.r i) ≠ .row true fr d) : Priv F σ (g.setOb i l) b :=
  ⟨h.ng, fun j fr d hj => by rw [show (g.setOb i l).ob j = g.ob j from if_neg fun e => hi fr d (by rw [← e]; exact hj)]; exact h.row j fr d hj, h.box, h.base⟩
/-- Inner rows, where only other blocks turn. -/
theorem Inn.chg {X : Nat → Prop} {us : List Value} {es : List (List Int × ByteArray)} (h : Inn w us es) (hc : Chg X w w') (hX : ∀ b, b ∈ us.filterMap Value.ownBlock → ¬ X b) : Inn w' us es :=
  ⟨h.1, fun j x hx => let ⟨e, ho⟩ := h.2 j x hx; ⟨e, ownsRow_chg hc ho fun b hb => hX b (List.mem_filterMap.2 ⟨x, List.mem_of_getElem? hx, hb⟩)⟩⟩
theorem setR_deep {es : List (List Int × ByteArray)} {e off : Nat} {us : List Cell} {G : Loc → Ct} {q : Row × Bool × List (Loc × Ct)} (h : (setR (.deqs es) e off us).run G = some q) : ∃ j s fr ys, off = 0 ∧ us = [.ref j, .sc (.string s)] ∧ G (.r j) = .row true fr (.ints .i64 ys) ∧ q = (.deqs (es.set e (ys, s)), fr, [(.r j, .dead)]) := by
  rcases off with _ | off
  rotate_left
  · cases h
  rcases us with _ | ⟨c, _ | ⟨c2, _ | ⟨c3, us⟩⟩⟩
  · cases h
  · cases c <;> cases h
  rotate_left
  · cases c <;> (first | cases h | (cases c2 <;> first | cases h | (rename_i v; cases v <;> cases h)))
  cases c with
  | sc v => cases h
  | ro fr d => cases h
  | ref j =>
    cases c2 with
    | ro fr d => cases h
    | ref k => cases h
    | sc v =>
      cases v with
      | string s =>
        have h' := run_ask h
        split at h'
        · rename_i fr ys hj
          exact ⟨j, s, fr, ys, rfl, rfl, hj, (run_ret h').symm⟩
        · cases h'
      | _ => cases h
/-- An equation is stored over another one. -/
theorem storeDeep_ok (h : Sat F σ a w g) {t : TypeId} {ti : TI} (ht : TIok P t ti) {i e : Nat} {fr : Bool} {es : List (List Int × ByteArray)} (hi : get σ (.r i) = .row true fr (.deqs es)) {u v : Value} (hu : AVRep g F.N w u (.pr i e 0)) {j : Nat} {s : ByteArray} (hv : All2 (CellRep g F.N w) v.cells.toList [.ref j, .sc (.string s)])
    (hl : 2 = ti.size) {fr2 : Bool} {ys : List Int} (hj : get σ (.r j) = .row true fr2 (.ints .i64 ys)) :
    ∃ w' g', (Instr.storeAt t u v).run P w = .ok () w' ∧ Sat F (push [(.r j, .dead), (.r i, .row true (fr && fr2) (.deqs (es.set e (ys, s))))] σ) a w' g' := by
  obtain ⟨hu1, hu2, ad, len, cap, hu3, rfl, hu5⟩ := hu
  obtain ⟨hr1, ⟨hwd, hln⟩, ⟨ee, hee, hown, hobk⟩, hpriv⟩ := h.row i _ _ _ hi
  obtain ⟨cs, us, hD⟩ := DeepRep.of hown hobk
  obtain ⟨_, _, ⟨e2, _, hown2, hobk2⟩, hpriv2⟩ := h.row j _ _ _ hj
  have hints := own_ints hown2
  have hobj : g.ob j = (g.rv j).ownBlock.toList := (Obk.flat rfl).1 hobk2
  have hij : i ≠ j := fun e => by rw [e, hj] at hi; cases hi
  have hve : v.cells.toList = [g.rv j, .string s] := by
    generalize hvl : v.cells.toList = vl at hv
    cases hv with
    | cons h1 t1 => cases t1 with
      | cons h2 t2 =>
        cases t2
        obtain ⟨_, rfl⟩ := h1
        obtain rfl := h2
        rfl
  have hvs : v.cells.size = 2 := by rw [← Array.length_toList, hve]; rfl
  have hwd : g.wd i = 2 := hwd
  have hln : g.ln i = es.length := hln
  rw [hln] at hu2
  have hst : ∀ w', (storeCells (ad.add (e * 2)) v.cells.toList 0).run P w = .ok () w' → (Instr.storeAt t (.pointer (some (ad.add (e * g.wd i + 0)))) v).run P w = .ok () w' := fun w' hw => by
    simp [Instr.storeAt, Instr.sureAddr, storeVar, run_sizeOf' ht, hvs, hwd, ← hl]; exact hw
  have one : ∀ u ∈ v.cells.toList, u.oneCell' = true := fun u hu => by
    rw [hve] at hu
    simp only [List.mem_cons, List.not_mem_nil, or_false] at hu
    rcases hu with rfl | rfl
    · obtain ⟨A, l, c, e⟩ := (h.dr j (h.row j _ _ _ hj).1).2
      rw [e]; rfl
    · rfl
  have hcl : cs.length = es.length * 2 := hD.own.1
  obtain ⟨w', hrun, hown', hch⟩ := owns_store (P := P) hD.own hu3 (p := e * 2) (us := v.cells.toList) (by rw [Array.length_toList, hvs]; omega) one
  rw [hve] at hown'
  have hul : us.length = es.length := hD.inn.1
  have hueI : ∀ b, (g.rv j).ownBlock = some b → b ∈ g.ob j := fun b hb => by rw [hobj, hb]; simp
  have hnotin : ∀ b, (g.rv j).ownBlock = some b → b ∉ g.ob i := fun b hb => h.sepR j i _ _ _ _ b hij.symm hj hi (hueI b hb)
  have hne : ∀ b, b ∈ us.filterMap Value.ownBlock → ¬ (g.rv i).ownBlock = some b := fun b hb e => by
    have := hD.nd
    rw [hD.blk, e] at this
    simp at this
    obtain ⟨x, hx, hxb⟩ := List.mem_filterMap.1 hb
    exact this.1 x hx hxb
  have hD' : DeepRep w' ee (g.rv i) (es.set e (ys, s)) ((g.rv i).ownBlock.toList ++ (us.set e (g.rv j)).filterMap Value.ownBlock) (replAt cs (e * 2) [g.rv j, .string s]) (us.set e (g.rv j)) := by
    refine ⟨by rw [List.length_set]; exact hown', fun k hk => ?_, ⟨by simp [hul], fun k x hx => ?_⟩, rfl, nodup_set (by omega) (by rw [← hD.blk]; exact hD.nd) fun b hb => by rw [← hD.blk]; exact hnotin b hb⟩
    · rw [List.length_set] at hk
      by_cases hke : k = e
      · subst hke
        rw [repl_get_in (by simp; omega) (by omega) (by simp; omega), repl_get_in (by simp; omega) (by omega) (by simp; omega)]
        rw [show 2 * k - k * 2 = 0 by omega, show 2 * k + 1 - k * 2 = 1 by omega, List.getElem?_set_self (by omega), List.getD_eq_getElem?_getD, List.getElem?_set_self hk]
        exact ⟨rfl, rfl⟩
      · rw [repl_get_out (by simp; omega) (by simp; omega), repl_get_out (by simp; omega) (by simp; omega), List.getElem?_set_ne (Ne.symm hke), List.getD_eq_getElem?_getD, List.getElem?_set_ne (Ne.symm hke), ← List.getD_eq_getElem?_getD]
        exact hD.prs k hk
    · by_cases hke : k = e
      · subst hke
        rw [List.getElem?_set_self (by omega)] at hx
        cases hx
        rw [List.getD_eq_getElem?_getD, List.getElem?_set_self hu2]
        exact ⟨e2, ownsRow_chg hch hints fun b hb hX => hnotin b hb (hobk.out b hX)⟩
      · rw [List.getElem?_set_ne (Ne.symm hke)] at hx
        rw [List.getD_eq_getElem?_getD, List.getElem?_set_ne (Ne.symm hke), ← List.getD_eq_getElem?_getD]
        exact (hD.inn.chg hch hne).2 k x hx
  obtain ⟨s1, p1⟩ := h.kill hj
  have hi1 : get ((Loc.r j, Ct.dead) :: σ) (.r i) = .row true fr (.deqs es) := by rw [get_other (Loc.r_ne hij)]; exact hi
  obtain ⟨s2, p2⟩ := s1.kill hi1
  have s3 := s2.world hch fun b _ hx => p2 b (hobk.out b hx)
  have hdead : ∀ fr d, get ((Loc.r i, Ct.dead) :: (Loc.r j, Ct.dead) :: σ) (.r i) ≠ .row true fr d := fun fr d => by rw [get_same]; simp
  have s4 := s3.setOb hdead ((g.rv i).ownBlock.toList ++ (us.set e (g.rv j)).filterMap Value.ownBlock)
  have hob4 : (g.setOb i ((g.rv i).ownBlock.toList ++ (us.set e (g.rv j)).filterMap Value.ownBlock)).ob i = (g.rv i).ownBlock.toList ++ (us.set e (g.rv j)).filterMap Value.ownBlock := if_pos rfl
  obtain ⟨r1, r2⟩ := hD'.mk' (PG (g.setOb i ((g.rv i).ownBlock.toList ++ (us.set e (g.rv j)).filterMap Value.ownBlock)) F.N (fr && fr2))
  have s5 := s4.reRow (i := i) hr1 (fr := fr && fr2) (d := .deqs (es.set e (ys, s))) (e := ee) hwd (by show g.ln i = _; rw [hln]; simp [Row.len]) hee (by rw [hob4]; exact r1) (by rw [hob4]; exact r2) (fun b hb => by
    rw [hob4] at hb
    have hcase : b ∈ g.ob i ∨ b ∈ g.ob j := by
      rcases List.mem_append.1 hb with hb | hb
      · exact .inl (hobk.out b (by simpa using hb))
      · obtain ⟨x, hx, hxb⟩ := List.mem_filterMap.1 hb
        rcases List.mem_or_eq_of_mem_set hx with hx | rfl
        · exact .inl (by rw [hD.blk]; exact List.mem_append_right _ (List.mem_filterMap.2 ⟨x, hx, hxb⟩))
        · exact .inr (hueI b hxb)
    rcases hcase with hb | hb
    · exact ⟨(p2 b hb).setOb hdead, fun hf => (hpriv b hb).2.2 (by cases fr <;> simp_all)⟩
    · exact ⟨((p1 b hb).dead i).setOb hdead, fun hf => (hpriv2 b hb).2.2 (by cases fr <;> cases fr2 <;> simp_all)⟩)
  refine ⟨w', _, hst w' hrun, s5.ext fun l => ?_⟩
  show get ((Loc.r i, Ct.row true (fr && fr2) (.deqs (es.set e (ys, s)))) :: (Loc.r j, Ct.dead) :: σ) l = get ((Loc.r i, Ct.row true (fr && fr2) (.deqs (es.set e (ys, s)))) :: (Loc.r i, Ct.dead) :: (Loc.r j, Ct.dead) :: σ) l
  by_cases hl : l = .r i
  · subst hl; rw [get_same, get_same]
  · rw [get_other hl, get_other hl, get_other hl]
end
end Vx
/- The operations: what makes rows and boxes. -/
namespace Vx
open Go Go.RowKit

section
variable {P : Program} {cx : Cx} {F : Fr} {σ : St} {a : Act} {w : World} {g : Gm}
theorem wr_dst (h : Sat F σ a w g) {dst : Option Tmp} (hd : dstOk F.nt dst = true) {v : Value} {x : AV} (hv : AVRep g F.N w v x) : Sat F (push (wr dst x) σ) (a.put dst v) w g := h.dst hd hv

/-! flat segments -/
theorem fold_set (vs : List Value) : ∀ (off k : Nat) (cells : Array Value), off + k + vs.length ≤ cells.size →
    ((vs.zipIdx k).foldl (fun cs (x : Value × Nat) => cs.setIfInBounds (off + x.2) x.1) cells).toList = replAt cells.toList (off + k) vs := by
  induction vs with
  | nil => intro off k cells h; simp [replAt]
  | cons v vs ih =>
    intro off k cells h
    simp only [List.length_cons] at h
    rw [List.zipIdx_cons, List.foldl_cons, ih off (k + 1) _ (by simp; omega)]
    rw [Array.toList_setIfInBounds]
    apply List.ext_getElem?
    intro j
    have hsz : cells.toList.length = cells.size := Array.length_toList
    by_cases h1 : j < off + k
    · rw [repl_get_out (by simp; omega) (.inl (by omega)), repl_get_out (by simp; omega) (.inl h1), List.getElem?_set, if_neg (by omega)]
    · by_cases h2 : j = off + k
      · subst h2
        rw [repl_get_out (by simp; omega) (.inl (by omega)), repl_get_in (by simp; omega) (Nat.le_refl _) (by simp), List.getElem?_set, if_pos rfl, if_pos (by omega)]
        simp
      · by_cases h3 : j < off + k + (vs.length + 1)
        · rw [repl_get_in (by simp; omega) (by omega) (by omega), repl_get_in (by simp; omega) (by omega) (by simp; omega)]
          have : j - (off + k) = (j - (off + (k + 1))) + 1 := by omega
          rw [this, List.getElem?_cons_succ]
        · rw [repl_get_out (by simp; omega) (.inr (by omega)), repl_get_out (by simp; omega) (.inr (by simp; omega)), List.getElem?_set, if_neg (by omega)]
theorem replAt_len {α : Type} {cs us : List α} {p : Nat} (h : p + us.length ≤ cs.length) : (replAt cs p us).length = cs.length := by
  simp only [replAt, List.length_append, List.length_take, List.length_drop]; omega
theorem fill_cons {place : Nat → Option (Nat × Nat)} {cells : Array Value} {i : Nat} {v : Value} {rest : List (Nat × Value)} {off size : Nat} (hp : place i = some (off, size)) (hs : v.cells.size = size) (ho : off + size ≤ cells.size) :
    Instr.fill place cells ((i, v) :: rest) = Instr.fill place (replAt cells.toList off v.cells.toList).toArray rest := by
  conv => lhs; unfold Instr.fill
  rw [hp]
  simp only
  rw [if_neg (by simp; omega)]
  congr 1
  apply Array.toList_inj.1
  have := fold_set v.cells.toList off 0 cells (by simp; omega)
  simp only [Nat.add_zero] at this
  rw [← this]
  rw [← Array.foldl_toList]
  congr 1
  simp [Array.toList_zipIdx]

theorem build_ok (h : Sat F σ a w g) {g1 : Gm} (hle : g.le g1) {fs : List (Nat × Nat)} {place : Nat → Option (Nat × Nat)} (hpl : ∀ (i : Nat) p, fs[i]? = some p → place i = some p) : ∀ (ps : List (Nat × Operand)) (cells : List Value) (cs cs' : List Cell) (G : Loc → Ct), G = get σ → All2 (CellRep g1 F.N w) cells cs → (fillR fs ps cs).run G = some cs' →
    ∃ cells', Instr.fill place cells.toArray (ps.map fun p => (p.1, a.eval p.2)) = some cells' ∧ All2 (CellRep g1 F.N w) cells'.toList cs'
  | [], cells, cs, cs', G, _, hc, hr => by
    obtain rfl := run_ret hr
    exact ⟨cells.toArray, rfl, hc⟩
  | (i, x) :: ps, cells, cs, cs', G, hG, hc, hr => by
    subst hG
    unfold fillR at hr
    split at hr
    · cases hr
    · rename_i off sz hf
      obtain ⟨v, hv, hr⟩ := run_bind_some hr
      obtain ⟨us, hus, hr⟩ := run_bind_some hr
      obtain ⟨ht, hr⟩ := run_test hr
      simp only [Bool.and_eq_true] at ht
      have hl := Nat.eq_of_beq_eq_true ht.1
      have hfit := fitR_ok ht.2
      have hu := (cellsOf_ok h (opv_ok h hv) hus).1.imp fun _ _ h' => CellRep.le h' hle
      have hul := hu.length
      have hcl := hc.length
      simp only [Array.length_toList] at hul
      obtain ⟨cells', e1, e2⟩ := build_ok h hle hpl ps (replAt cells off (a.eval x).cells.toList) (replAt cs off us) cs' _ rfl (hc.repl hu off) hr
      refine ⟨cells', ?_, e2⟩
      have hsz : (a.eval x).cells.size = sz := hul.trans hl
      have hle : off + sz ≤ cells.toArray.size := by simp; omega
      rw [List.map_cons, fill_cons (hpl i _ hf) hsz hle]
      exact e1
theorem run_places : ∀ (fields : List Field) (fs : List (Nat × Nat)), All2 (fun (f : Field) p => f.offset = p.1 ∧ ∃ i, P.info? f.type = some i ∧ i.size = p.2) fields fs →
    ((fields.mapM fun f => do pure (f.offset, ← Go.sizeOf f.type) : Sem (List (Nat × Nat)))).run P w = .ok fs w
  | [], _, .nil => rfl
  | f :: fields, _, .cons (b := p) (bs := fs) ⟨h1, i, h2, h3⟩ t' => by
    have ih := run_places fields fs t'
    have hf : ((do pure (f.offset, ← Go.sizeOf f.type) : Sem (Nat × Nat))).run P w = .ok p w := by
      simp [Go.sizeOf, typeInfo, h2, h3, h1]
    rw [List.mapM_cons, Sem.run_bind, hf, Result.andThen_ok, Sem.run_bind, ih]
    rfl

/-! rows -/
theorem seg_row {n size : Nat} : ∀ (ps : List (Nat × Value)) (k : Nat) (cells : List Value), (∀ (j : Nat) p, ps[j]? = some p → p.1 = k + j ∧ p.2.cells.size = size) → k + ps.length ≤ n → cells.length = n * size →
    ∃ cells', Instr.fill (fun i => some (i * size, size)) cells.toArray ps = some cells' ∧ cells'.toList = cells.take (k * size) ++ ps.flatMap (fun p => p.2.cells.toList) ++ cells.drop ((k + ps.length) * size)
  | [], k, cells, _, _, _ => ⟨cells.toArray, rfl, by simp⟩
  | (i, v) :: ps, k, cells, hp, hk, hl => by
    obtain ⟨h1, h2⟩ := hp 0 _ rfl
    simp only [List.length_cons] at hk
    have hi : i = k := by simpa using h1
    subst hi
    have hle : i * size + size ≤ n * size := by rw [← Nat.succ_mul]; exact Nat.mul_le_mul_right _ (by omega)
    have h2' : v.cells.toList.length = size := by simpa using h2
    obtain ⟨cells', e1, e2⟩ := seg_row (n := n) (size := size) ps (i + 1) (replAt cells (i * size) v.cells.toList) (fun j p hj => by
      have := hp (j + 1) p (by simpa using hj)
      exact ⟨by rw [this.1]; omega, this.2⟩) (by omega) (by rw [replAt_len (by omega)]; exact hl)
    refine ⟨cells', by rw [fill_cons rfl h2 (by simp; omega)]; exact e1, ?_⟩
    rw [e2]
    have hs1 : (i + 1) * size = i * size + size := Nat.succ_mul _ _
    have hs2 : (i + 1 + ps.length) * size = (i + (ps.length + 1)) * size := by congr 1; omega
    unfold replAt
    simp only [List.flatMap_cons, List.length_cons]
    rw [hs1, hs2]
    have hlen : (cells.take (i * size) ++ v.cells.toList).length = i * size + size := by
      rw [List.length_append, List.length_take, h2', Nat.min_eq_left (by omega)]
    have hge : i * size + size ≤ (i + (ps.length + 1)) * size := by rw [← hs1]; exact Nat.mul_le_mul_right _ (by omega)
    have e3 : (cells.take (i * size) ++ v.cells.toList ++ cells.drop (i * size + v.cells.toList.length)).take (i * size + size) = cells.take (i * size) ++ v.cells.toList := by
      exact List.take_left' hlen
    have e4 : (cells.take (i * size) ++ v.cells.toList ++ cells.drop (i * size + v.cells.toList.length)).drop ((i + (ps.length + 1)) * size) = cells.drop ((i + (ps.length + 1)) * size) := by
      rw [List.drop_append, List.drop_of_length_le (by rw [hlen]; exact hge), List.nil_append, List.drop_drop, hlen, h2']
      congr 1
      omega
    rw [e3, e4]
    simp
theorem kind_flat_nil {k : RK} {d : Row} (h : d.kind = k) : d.wd = kwd k := by rw [← h, kwd_wd]
/-- A row that is made: its cells. -/
theorem OwnRep.made {Pj : Nat → Prop} {e : TypeId} {d : Row} {cells : List Value} (w : World) (hall : All2 (DRep w Pj) cells d.flat) (hm : d.len ≤ 1099511627776) :
    OwnRep (w.alloc (.cells cells.toArray e)) Pj e (.slice (some ⟨w.heap.size, 0, none⟩) d.len d.len) d := by
  have hl := hall.length
  rw [flat_len] at hl
  refine ⟨cells, ⟨hl, .inr ⟨w.heap.size, d.len, cells.toArray, (0, 0), rfl, heap_alloc_new w _, .inl rfl, Nat.le_refl _, ?_, by simpa using hl, ?_⟩⟩, fun j c hj => ?_⟩
  · simp only [maxLen]; omega
  · simp only [← hl, List.take_length]
  · obtain ⟨x, hx1, hx2⟩ := hall.get j c hj
    exact ⟨x, hx1, hx2.chg (Chg.alloc (fun _ => False) w _) (fun _ _ h => h) fun _ h => h⟩
/-- A new row of one's own in the world. -/
theorem Sat.allocRow (h : Sat F σ a w g) {id : Nat} (hid : get σ (.r id) = .no) {fr : Bool} {d : Row} {e : TypeId} (he : ekOf F.ek d.kind = some e) {cells : List Value} (hall : All2 (DRep w (PG g F.N fr)) cells d.flat) (hm : d.len ≤ 1099511627776) (hd : d.deep = false) :
    Sat F ((.r id, .row true fr d) :: σ) a (w.alloc (.cells cells.toArray e)) (g.setR id (.slice (some ⟨w.heap.size, 0, none⟩) d.len d.len) d) ∧ g.le (g.setR id (.slice (some ⟨w.heap.size, 0, none⟩) d.len d.len) d) := by
  have hnd : ¬ g.dr id := fun hd => (h.dr id hd).1 hid
  have hc := Chg.alloc (fun _ => False) w (.cells cells.toArray e)
  have hp := h.fresh (Nat.le_refl w.heap.size)
  have h' := h.world hc fun _ _ hx => hx.elim
  refine ⟨h'.newRow hid he (OwnRep.made w hall hm) (fun b hb => ?_) hd, g.setR_le hnd _ _⟩
  have hb' : b = w.heap.size := by
    simp only [Value.ownBlock, Option.some.injEq] at hb
    exact hb.symm
  subst hb'
  refine ⟨hp, fun _ => F.hN _ ?_⟩
  have := h.base; have := h.chg.size; omega
theorem getElem?_madeCells (z : Array Value) (n j : Nat) : (madeCells z n).toList[j]? = if j < n then some (z[j % z.size]!) else none := by
  by_cases h : j < n <;> simp [madeCells, h]
theorem flat_repl (k : RK) (n : Nat) (z : Array Value) (hz : z.toList = kzero k) (w : World) (Pj : Nat → Prop) : All2 (DRep w Pj) (madeCells z (n * kwd k)).toList (replR k n).flat := by
  have hzs : z.size = kwd k := by rw [← Array.length_toList, hz]; cases k <;> rfl
  apply All2.of_get
  · rw [flat_len]; simp only [Array.length_toList, size_madeCells]; cases k <;> simp [replR, Row.len, Row.wd, kwd]
  · intro j x c hx hc
    rw [getElem?_madeCells] at hx
    split at hx
    · cases hx
      rename_i hj
      have hz0 : ∀ i (hi : i < z.size), z[i]! = (kzero k)[i]'(by rw [← hz]; simpa using hi) := fun i hi => by
        rw [getElem!_pos z i hi]
        simp only [← hz]
        simp
      cases k with
      | ints k =>
        have hz1 : z.size = 1 := hzs
        simp only [replR, Row.flat, List.map_replicate] at hc
        have := List.eq_of_mem_replicate (List.mem_of_getElem? hc)
        subst this
        rw [hz1, Nat.mod_one, hz0 0 (by omega)]
        rfl
      | strs =>
        have hz1 : z.size = 1 := hzs
        simp only [replR, Row.flat, List.map_replicate] at hc
        have := List.eq_of_mem_replicate (List.mem_of_getElem? hc)
        subst this
        rw [hz1, Nat.mod_one, hz0 0 (by omega)]
        rfl
      | arr k m =>
        have hz1 : z.size = 1 := hzs
        simp only [replR, Row.flat, List.map_replicate] at hc
        have := List.eq_of_mem_replicate (List.mem_of_getElem? hc)
        subst this
        rw [hz1, Nat.mod_one, hz0 0 (by omega)]
        rfl
      | eqs =>
        have hz2 : z.size = 2 := hzs
        simp only [kwd] at hj
        have hlt : j / 2 < n := by omega
        have hfc := flat_cells (replR .eqs n) (e := j / 2) (by simp [replR, Row.len]; exact hlt) (j % 2) (Nat.mod_lt _ (by decide))
        have hjj : j / 2 * 2 + j % 2 = j := by omega
        have hwd : (replR .eqs n).wd = 2 := rfl
        rw [hwd, hjj, hc] at hfc
        rw [hz2, hz0 (j % 2) (by omega)]
        have h01 : j % 2 = 0 ∨ j % 2 = 1 := by omega
        have hget : (List.replicate n eqD).getD (j / 2) eqD = eqD := by
          rw [List.getD_eq_getElem?_getD, List.getElem?_replicate, if_pos hlt]; rfl
        rcases h01 with h01 | h01
        · simp only [h01] at hfc ⊢
          simp only [replR, Row.cells, hget, List.getElem?_cons_zero, Option.some.injEq] at hfc
          subst hfc
          exact ⟨none, 0, rfl, Nat.le_refl _, fun hl => absurd hl (by simp [eqD])⟩
        · simp only [h01] at hfc ⊢
          simp only [replR, Row.cells, hget, List.getElem?_cons_succ, List.getElem?_cons_zero, Option.some.injEq] at hfc
          subst hfc
          rfl
      | deqs =>
        have hz2 : z.size = 2 := hzs
        simp only [kwd] at hj
        have hlt : j / 2 < n := by omega
        have hfc := flat_cells (replR .deqs n) (e := j / 2) (by simp [replR, Row.len]; exact hlt) (j % 2) (Nat.mod_lt _ (by decide))
        have hjj : j / 2 * 2 + j % 2 = j := by omega
        have hwd : (replR .deqs n).wd = 2 := rfl
        rw [hwd, hjj, hc] at hfc
        rw [hz2, hz0 (j % 2) (by omega)]
        have h01 : j % 2 = 0 ∨ j % 2 = 1 := by omega
        have hget : (List.replicate n eqD).getD (j / 2) eqD = eqD := by
          rw [List.getD_eq_getElem?_getD, List.getElem?_replicate, if_pos hlt]; rfl
        rcases h01 with h01 | h01
        · simp only [h01] at hfc ⊢
          simp only [replR, Row.cells, hget, List.getElem?_cons_zero, Option.some.injEq] at hfc
          subst hfc
          exact ⟨none, 0, rfl, Nat.le_refl _, fun hl => absurd hl (by simp [eqD])⟩
        · simp only [h01] at hfc ⊢
          simp only [replR, Row.cells, hget, List.getElem?_cons_succ, List.getElem?_cons_zero, Option.some.injEq] at hfc
          subst hfc
          rfl
    · cases hx
end
end Vx
/- The operations: literals of slices, make, append. -/
namespace Vx
open Go Go.RowKit

section
variable {P : Program} {cx : Cx} {F : Fr} {σ : St} {a : Act} {w : World} {g : Gm}
theorem eltsI_ok (h : Sat F σ a w g) {k : IntKind} : ∀ (l : List Operand) (xs : List Int), (eltsI k l).run (get σ) = some xs → l.map a.eval = xs.map (.int k)
  | [], xs, hr => by
    obtain rfl := run_ret hr
    rfl
  | x :: l, xs, hr => by
    obtain ⟨v, hv, hr⟩ := run_bind_some hr
    have hv' := scal_ok h hv
    split at hr
    · obtain ⟨hk, hr2⟩ := run_test hr
      obtain rfl := IntKind.eqb_iff.1 hk
      obtain ⟨ys, hys, hr3⟩ := run_bind_some hr2
      obtain rfl := run_ret hr3
      simp [hv', eltsI_ok h l ys hys]
    · cases hr
theorem eltsS_ok (h : Sat F σ a w g) : ∀ (l : List Operand) (xs : List ByteArray), (eltsS l).run (get σ) = some xs → l.map a.eval = xs.map .string
  | [], xs, hr => by
    obtain rfl := run_ret hr
    rfl
  | x :: l, xs, hr => by
    obtain ⟨v, hv, hr⟩ := run_bind_some hr
    have hv' := scal_ok h hv
    split at hr
    · obtain ⟨ys, hys, hr⟩ := run_bind_some hr
      obtain rfl := run_ret hr
      simp [hv', eltsS_ok h l ys hys]
    · cases hr
theorem cells_ints (Pj : Nat → Prop) (k : IntKind) (xs : List Int) : All2 (DRep w Pj) ((xs.map (Value.int k)).flatMap fun v => v.cells.toList) (Row.ints k xs).flat := by
  induction xs with
  | nil => exact .nil
  | cons x xs ih => exact .cons rfl ih
theorem cells_strs (Pj : Nat → Prop) (xs : List ByteArray) : All2 (DRep w Pj) ((xs.map Value.string).flatMap fun v => v.cells.toList) (Row.strs xs).flat := by
  induction xs with
  | nil => exact .nil
  | cons x xs ih => exact .cons rfl ih
/-- The elements of a literal: their cells. -/
theorem eltsR_ok (h : Sat F σ a w g) {k : RK} (hka : k.isArr = false) {l : List Operand} {d : Row} {fr : Bool} {fz : List (Loc × Ct)} (hr : (eltsR k l).run (get σ) = some (d, fr, fz)) :
    ∃ g', Sat F (push fz σ) a w g' ∧ g.le g' ∧ d.kind = k ∧ d.len = l.length ∧ (∀ x ∈ l, (a.eval x).cells.size = kwd k) ∧ All2 (DRep w (PG g' F.N fr)) ((l.map a.eval).flatMap fun v => v.cells.toList) d.flat ∧ (∀ p ∈ fz, ∃ i fr d, p = (.r i, .row false fr d) ∧ ∃ o, get σ (.r i) = .row o fr d) := by
  cases k with
  | arr k n => cases hr
  | deqs => cases hka
  | ints k =>
    obtain ⟨xs, hxs, hr⟩ := run_bind_some hr
    have := run_ret hr; cases this
    have e := eltsI_ok h l xs hxs
    have hl : l.length = xs.length := by simpa using congrArg List.length e
    refine ⟨g, h, g.le_refl, rfl, hl.symm, fun x hx => ?_, ?_, fun p hp => (by cases hp)⟩
    · have hm : a.eval x ∈ l.map a.eval := List.mem_map_of_mem hx
      rw [e] at hm
      obtain ⟨n, _, hn⟩ := List.mem_map.1 hm
      rw [← hn]; rfl
    · rw [e]
      exact cells_ints _ k xs
  | strs =>
    obtain ⟨xs, hxs, hr⟩ := run_bind_some hr
    have := run_ret hr; cases this
    have e := eltsS_ok h l xs hxs
    have hl : l.length = xs.length := by simpa using congrArg List.length e
    refine ⟨g, h, g.le_refl, rfl, hl.symm, fun x hx => ?_, ?_, fun p hp => (by cases hp)⟩
    · have hm : a.eval x ∈ l.map a.eval := List.mem_map_of_mem hx
      rw [e] at hm
      obtain ⟨n, _, hn⟩ := List.mem_map.1 hm
      rw [← hn]; rfl
    · rw [e]
      exact cells_strs _ xs
  | eqs =>
    obtain ⟨⟨q1, q2, q3⟩, hq, hr⟩ := run_bind_some hr
    have := run_ret hr; cases this
    unfold eltsE at hq
    split at hq
    · have := run_ret hq; cases this
      exact ⟨g, h, g.le_refl, rfl, rfl, fun x hx => (by cases hx), .nil, fun p hp => (by cases hp)⟩
    · rename_i x
      obtain ⟨v, hv, hq⟩ := run_bind_some hq
      have hv' := opv_ok h hv
      split at hq
      · rename_i c s
        obtain ⟨⟨p1, p2, p3⟩, hp, hq⟩ := run_bind_some hq
        have := run_ret hq; cases this
        obtain ⟨us, hu, hall⟩ := hv'
        cases hall with
        | cons h1 t1 => cases t1 with
          | cons h2 t2 =>
            cases t2
            rename_i u0 u1
            obtain rfl := (h2 : u1 = _)
            obtain ⟨g', hs, hle, hrv, hdr, hmem⟩ := innerR_ok h h1 hp
            refine ⟨g', hs, hle, rfl, rfl, fun y hy => ?_, ?_, fun p hp => ?_⟩
            · simp only [List.mem_singleton] at hy
              subst hy
              rw [hu]; rfl
            · simp only [List.map_cons, List.map_nil, List.flatMap_cons, List.flatMap_nil, List.append_nil, hu]
              exact .cons hdr (.cons rfl .nil)
            · obtain ⟨i, fr, d, e1, e2, _⟩ := hmem p hp
              exact ⟨i, fr, d, e1, e2⟩
      · cases hq
    · cases hq
theorem idx_ok : ∀ (ps : List (Nat × Operand)) (n : Nat), idxOk n ps = true → ∀ (j : Nat) p, ps[j]? = some p → p.1 = n + j
  | [], n, _, j, p, hj => by simp at hj
  | (i, x) :: ps, n, h, j, p, hj => by
    simp only [idxOk, Bool.and_eq_true] at h
    cases j with
    | zero => simp at hj; subst hj; exact Nat.eq_of_beq_eq_true h.1
    | succ j =>
      have := idx_ok ps (n + 1) h.2 j p (by simpa using hj)
      omega
theorem frozen_get {fz : List (Loc × Ct)} (hf : ∀ p ∈ fz, ∃ i fr d, p = (.r i, .row false fr d) ∧ ∃ o, get σ (.r i) = .row o fr d) {l : Loc} (h : get σ l = .no) : get (push fz σ) l = .no := by
  rcases get_push_frozen hf l with h' | ⟨i, fr, d, rfl, _, o, ho⟩
  · rw [h', h]
  · rw [h] at ho; cases ho
/-- What the literal does: a new row of the elements' cells. -/
theorem run_build (htab : TabOk P cx) {t e : TypeId} (hu : P.underlying t = some (.slice e)) {k : RK} (hk : alook cx.ek.ts e = some k) {n : Nat} {ps : Array (Nat × Operand)} (hn : ps.toList.length = n) (hx : idxOk 0 ps.toList = true) (hsm : n ≤ 4000000)
    (hsz : ∀ x ∈ ps.toList.map (·.2), (a.eval x).cells.size = kwd k) (w : World) :
    ∃ cells' : Array Value, cells'.toList = ((ps.toList.map (·.2)).map a.eval).flatMap (fun v => v.cells.toList) ∧ (Instr.buildSlice t n (ps.map fun (i, x) => (i, a.eval x))).run P w = .ok (.slice (some ⟨w.heap.size, 0, none⟩) n n) (w.alloc (.cells cells' e)) := by
  obtain ⟨⟨⟨i, z, hi, his, hib, hib2, hiz, hzc⟩⟩, hek⟩ := htab.ek e k hk
  have hzs : z.cells.size = kwd k := by rw [← Array.length_toList, hzc]; cases k <;> rfl
  have hseg := seg_row (n := n) (size := kwd k) ((ps.toList.map fun p => (p.1, a.eval p.2))) 0 ((Array.range (n * kwd k)).map (z.cells[· % z.cells.size]!)).toList (fun j p hj => by
    simp only [List.getElem?_map, Option.map_eq_some_iff] at hj
    obtain ⟨q, hq, rfl⟩ := hj
    refine ⟨idx_ok _ 0 hx j q hq, hsz q.2 ?_⟩
    exact List.mem_map_of_mem (List.mem_of_getElem? hq)) (by simp [hn]) (by simp)
  obtain ⟨cells', e1, e2⟩ := hseg
  have hc' : cells'.toList = ((ps.toList.map (·.2)).map a.eval).flatMap fun v => v.cells.toList := by
    rw [e2]
    simp only [Nat.zero_mul, List.take_zero, List.nil_append, Nat.zero_add, List.length_map, hn]
    rw [List.drop_of_length_le (by simp)]
    simp only [List.append_nil, List.flatMap_map]
  refine ⟨cells', hc', ?_⟩
  have hpl : (ps.map fun (x : Nat × Operand) => (x.1, a.eval x.2)).toList = ps.toList.map fun p => (p.1, a.eval p.2) := by simp
  have hw1 : kwd k ≤ 2 := by cases k <;> simp [kwd]
  have hnk : n * kwd k ≤ n * 2 := Nat.mul_le_mul_left _ hw1
  have hsm' : ¬ n * kwd k > 2 ^ 24 := by
    have : (2 : Nat) ^ 24 = 16777216 := by decide
    omega
  by_cases h0 : n * kwd k = 0
  · have hn0 : n = 0 := by
      rcases Nat.mul_eq_zero.1 h0 with h0 | h0
      · exact h0
      · cases k <;> simp [kwd] at h0
    subst hn0
    have hp0 : ps = #[] := by apply Array.toList_inj.1; simpa using List.length_eq_zero_iff.1 hn
    subst hp0
    have hce : cells' = #[] := by apply Array.toList_inj.1; rw [hc']; rfl
    subst hce
    simp [Instr.buildSlice, run_underlying hu, Go.sizeOf, typeInfo, hi, his, Instr.fill, newRow, Array.range_zero']
  · have e1' : Instr.fill (fun i => some (i * kwd k, kwd k)) ((Array.range (n * kwd k)).map (z.cells[· % z.cells.size]!)) (ps.map fun (x : Nat × Operand) => (x.1, a.eval x.2)).toList = some cells' := by
      rw [hpl]
      rw [Array.toArray_toList] at e1
      exact e1
    simp only [Instr.buildSlice, Sem.run_bind, run_underlying hu, Result.andThen_ok, Go.sizeOf, typeInfo, run_program, hi, Sem.run_pure, his, if_neg hsm', h0, if_false, zeroValue, hiz, e1', newRow, run_newObj]
    rfl
theorem buildSlice_ok (htab : TabOk P cx) (hF : F.ek = cx.ek) (h : Sat F σ a w g) {t e : TypeId} (hu : P.underlying t = some (.slice e)) {k : RK} (hk : alook cx.ek.ts e = some k) {n : Nat} {ps : Array (Nat × Operand)} (hn : ps.toList.length = n) (hx : idxOk 0 ps.toList = true) (hsm : n ≤ 4000000)
    {d : Row} {fr : Bool} {fz : List (Loc × Ct)} (hr : (eltsR k (ps.toList.map (·.2))).run (get σ) = some (d, fr, fz)) {id : Nat} (hid : get σ (.r id) = .no) :
    ∃ v w' g', (Instr.buildSlice t n (ps.map fun (i, x) => (i, a.eval x))).run P w = .ok v w' ∧ Sat F (push (fz ++ [(.r id, .row true fr d)]) σ) a w' g' ∧ AVRep g' F.N w' v (.v (.cell (.ref id))) := by
  obtain ⟨g1, hs, hle, hdk, hdl, hsz, hall, hfz⟩ := eltsR_ok h (htab.na e k hk) hr
  obtain ⟨cells', hc', hrun⟩ := run_build (a := a) htab hu hk hn hx hsm hsz w
  have hlen : d.len = n := by rw [hdl, List.length_map, hn]
  have hid' : get (push fz σ) (.r id) = .no := frozen_get hfz hid
  obtain ⟨hs2, hle2⟩ := hs.allocRow hid' (e := e) (by rw [hF, hdk]; exact (htab.ek e k hk).2) (cells := cells'.toList) (by rw [hc']; exact hall) (by omega) (kind_flat (by rw [hdk]; exact htab.na e k hk))
  refine ⟨.slice (some ⟨w.heap.size, 0, none⟩) n n, w.alloc (.cells cells' e), g1.setR id (.slice (some ⟨w.heap.size, 0, none⟩) d.len d.len) d, hrun, ?_, ?_⟩
  · rw [push_append]
    have : (cells'.toList).toArray = cells' := by simp
    rw [this] at hs2
    exact hs2
  · exact ⟨.inr rfl, by rw [← hlen]; exact (if_pos rfl).symm⟩
/-- A new row of equations, owned with its inner rows. -/
theorem Sat.newDeep {X : Nat → Prop} {w' : World} (h : Sat F σ a w g) (hc : Chg X w w') (hX : ∀ j, j < w.heap.size → X j → Priv F σ g j) {id : Nat} (hid : get σ (.r id) = .no) {fr : Bool} {e : TypeId} (he : ekOf F.ek .deqs = some e) {v : Value} {es : List (List Int × ByteArray)} {l : List Nat} {cs us : List Value} (hD : DeepRep w' e v es l cs us)
    (hb : ∀ b ∈ l, (Priv F σ g b ∧ (fr = true → F.N b)) ∨ w.heap.size ≤ b) : Sat F ((.r id, .row true fr (.deqs es)) :: σ) a w' (g.setR id v (.deqs es) l) :=
  (h.world hc hX).newRowL hid (d := .deqs es) he (hD.mk' _).1 (hD.mk' fun _ => True).2 fun b hb' => (hb b hb').elim (fun h => h) fun hge => ⟨h.fresh hge, fun _ => F.hN _ (by have := h.base; have := h.chg.size; omega)⟩
theorem buildDeep_ok (htab : TabOk P cx) (hF : F.ek = cx.ek) (h : Sat F σ a w g) {t e : TypeId} (hu : P.underlying t = some (.slice e)) (hk : alook cx.ek.ts e = some .eqs) {n : Nat} {ps : Array (Nat × Operand)} (hn : ps.toList.length = n) (hx : idxOk 0 ps.toList = true) (hsm : n ≤ 4000000)
    {d : Row} {fr : Bool} {fz : List (Loc × Ct)} (hr : (eltsD (ps.toList.map (·.2))).run (get σ) = some (d, fr, fz)) {id : Nat} (hid : get σ (.r id) = .no) :
    ∃ v w' g', (Instr.buildSlice t n (ps.map fun (i, x) => (i, a.eval x))).run P w = .ok v w' ∧ Sat F (push (fz ++ [(.r id, .row true fr d)]) σ) a w' g' ∧ AVRep g' F.N w' v (.v (.cell (.ref id))) := by
  have hek : ekOf F.ek .deqs = some e := by rw [hF]; exact (htab.ek e _ hk).2
  generalize hl : ps.toList.map (·.2) = l at hr
  have hln : l.length = n := by rw [← hl, List.length_map, hn]
  unfold eltsD at hr
  split at hr
  · have := run_ret hr; cases this
    obtain ⟨cells', hc', hrun⟩ := run_build (a := a) htab hu hk hn hx hsm (fun x hx => by rw [hl] at hx; cases hx) w
    rw [hl] at hc'
    simp only [List.map_nil, List.flatMap_nil] at hc'
    obtain rfl : n = 0 := hln.symm
    have hc := Chg.alloc (fun _ => False) w (.cells cells' e)
    have hs := h.newDeep hc (fun _ _ hx => hx.elim) hid (fr := true) hek (v := .slice (some ⟨w.heap.size, 0, none⟩) 0 0) (es := []) (l := [w.heap.size]) (cs := []) (us := [])
      ⟨⟨rfl, .inr ⟨w.heap.size, 0, cells', (0, 0), rfl, heap_alloc_new w _, .inl rfl, Nat.le_refl _, Nat.zero_le _, by rw [← Array.length_toList, hc']; rfl, by rw [hc']; rfl⟩⟩, fun j hj => absurd hj (Nat.not_lt_zero j), ⟨rfl, fun j x hx => by simp at hx⟩, rfl, by simp⟩ (fun b hb => .inr (by simp at hb; omega))
    exact ⟨_, _, _, hrun, hs, .inr rfl, (if_pos rfl).symm⟩
  · rename_i x
    obtain ⟨v, hv, hr⟩ := run_bind_some hr
    have hv' := opv_ok h hv
    split at hr
    · rename_i j s
      have hr' := run_ask hr
      split at hr'
      · rename_i fr' xs hj
        have := run_ret hr'; cases this
        obtain ⟨us, hu', hall⟩ := hv'
        cases hall with
        | cons h1 t1 => cases t1 with
          | cons h2 t2 =>
            cases t2
            rename_i u0 u1
            obtain rfl := (h2 : u1 = _)
            obtain ⟨hdr, rfl⟩ := h1
            have hcs : (a.eval x).cells.toList = [g.rv j, .string s] := by rw [hu']; rfl
            obtain ⟨cells', hc', hrun⟩ := run_build (a := a) htab hu hk hn hx hsm (fun y hy => by
              rw [hl] at hy
              simp only [List.mem_singleton] at hy
              subst hy
              rw [← Array.length_toList, hcs]; rfl) w
            rw [hl] at hc'
            simp only [List.map_cons, List.map_nil, List.flatMap_cons, List.flatMap_nil, List.append_nil, hcs] at hc'
            obtain rfl : n = 1 := hln.symm
            have hc := Chg.alloc (fun _ => False) w (.cells cells' e)
            obtain ⟨_, _, ⟨e2, _, hown2, hobk2⟩, hpriv2⟩ := h.row j _ _ _ hj
            have hints := own_ints hown2
            have hobj : g.ob j = (g.rv j).ownBlock.toList := (Obk.flat rfl).1 hobk2
            have hlt : ∀ b, (g.rv j).ownBlock = some b → b < w.heap.size := fun b hb => (ownsM_lt hints b hb).2
            obtain ⟨s1, p1⟩ := h.kill hj
            have hne : Loc.r id ≠ Loc.r j := fun e => by rw [e, hj] at hid; cases hid
            have hs := s1.newDeep hc (fun _ _ hx => hx.elim) (by rw [get_other hne]; exact hid) (fr := fr) hek (v := .slice (some ⟨w.heap.size, 0, none⟩) 1 1) (es := [(xs, s)]) (l := w.heap.size :: (g.rv j).ownBlock.toList) (cs := [g.rv j, .string s]) (us := [g.rv j])
              ⟨⟨rfl, .inr ⟨w.heap.size, 1, cells', (0, 0), rfl, heap_alloc_new w _, .inl rfl, Nat.le_refl _, by simp [maxLen], by rw [← Array.length_toList, hc']; rfl, by rw [hc']; rfl⟩⟩, fun k hk => by
                have : k = 0 := Nat.lt_one_iff.1 hk
                subst this
                exact ⟨rfl, rfl⟩, ⟨rfl, fun k x hx => by
                cases k with
                | zero => simp at hx; subst hx; exact ⟨e2, ownsRow_chg hc hints fun _ _ h => h⟩
                | succ k => simp at hx⟩, by
                simp only [Value.ownBlock, Option.toList, List.filterMap_cons, List.filterMap_nil]
                cases (g.rv j).ownBlock <;> rfl, by
                rw [List.nodup_cons]
                exact ⟨fun hb => by have := hlt w.heap.size (by simpa using hb); omega, toList_nodup _⟩⟩
              (fun b hb => by
                rcases List.mem_cons.1 hb with rfl | hb
                · exact .inr (Nat.le_refl _)
                · have hb' : b ∈ g.ob j := by rw [hobj]; exact hb
                  exact .inl ⟨p1 b hb', (hpriv2 b hb').2.2⟩)
            exact ⟨_, _, _, hrun, hs, .inr rfl, (if_pos rfl).symm⟩
      · cases hr'
    · cases hr
  · cases hr
theorem makeSlice_ok (htab : TabOk P cx) (hF : F.ek = cx.ek) (h : Sat F σ a w g) {t e : TypeId} (hu : P.underlying t = some (.slice e)) {k : RK} (hk : alook cx.ek.ts e = some k) {n : Int} (h0 : 0 ≤ n) (hn : n < (two40 : Int)) {id : Nat} (hid : get σ (.r id) = .no) :
    ∃ v w' g', (Instr.makeSlice t (.int .i64 n) (.int .i64 n)).run P w = .ok v w' ∧ Sat F ((.r id, .row true true (replR k n.toNat)) :: σ) a w' g' ∧ AVRep g' F.N w' v (.v (.cell (.ref id))) := by
  obtain ⟨⟨⟨i, z, hi, his, hib, hib2, hiz, hzc⟩⟩, hek⟩ := htab.ek e k hk
  simp only [two40] at hn
  have hb : (i.bytes : Int) * n ≤ 281474976710656 := by
    have : (i.bytes : Int) * n ≤ 64 * n := Int.mul_le_mul_of_nonneg_right (by omega) h0
    omega
  have hrun := run_make (P := P) w t e i z hu hi hiz .i64 .i64 n n h0 (Int.le_refl _) hb (by omega)
  rw [his] at hrun
  have hlen : (replR k n.toNat).len = n.toNat := by cases k <;> simp [replR, Row.len]
  obtain ⟨hs2, hle2⟩ := h.allocRow hid (fr := true) (d := replR k n.toNat) (e := e) (by
    have hna := htab.na e k hk
    rw [hF]
    cases k <;> first
      | exact hek
      | cases hna) (cells := (madeCells z.cells (n.toNat * kwd k)).toList) (flat_repl k n.toNat z.cells hzc w _) (by rw [hlen]; omega) (by
    have hna := htab.na e k hk
    cases k <;> first | rfl | cases hna)
  refine ⟨_, _, g.setR id (.slice (some ⟨w.heap.size, 0, none⟩) (replR k n.toNat).len (replR k n.toNat).len) (replR k n.toNat), hrun, ?_, ?_⟩
  · simpa using hs2
  · exact ⟨.inr rfl, by rw [hlen]; exact (if_pos rfl).symm⟩
theorem makeDeep_ok (htab : TabOk P cx) (hF : F.ek = cx.ek) (h : Sat F σ a w g) {t e : TypeId} (hu : P.underlying t = some (.slice e)) (hk : alook cx.ek.ts e = some .eqs) {n : Int} (h0 : 0 ≤ n) (hn : n < (two40 : Int)) {id : Nat} (hid : get σ (.r id) = .no) :
    ∃ v w' g', (Instr.makeSlice t (.int .i64 n) (.int .i64 n)).run P w = .ok v w' ∧ Sat F ((.r id, .row true true (replR .deqs n.toNat)) :: σ) a w' g' ∧ AVRep g' F.N w' v (.v (.cell (.ref id))) := by
  obtain ⟨⟨⟨i, z, hi, his, hib, hib2, hiz, hzc⟩⟩, hek⟩ := htab.ek e _ hk
  simp only [two40] at hn
  have hb : (i.bytes : Int) * n ≤ 281474976710656 := by
    have : (i.bytes : Int) * n ≤ 64 * n := Int.mul_le_mul_of_nonneg_right (by omega) h0
    omega
  have hrun := run_make (P := P) w t e i z hu hi hiz .i64 .i64 n n h0 (Int.le_refl _) hb (by omega)
  rw [his] at hrun
  have hc := Chg.alloc (fun _ => False) w (.cells (madeCells z.cells (n.toNat * 2)) e)
  have hz2 : z.cells.size = 2 := by rw [← Array.length_toList, hzc]; rfl
  have hz0 : ∀ i (hi : i < 2), z.cells[i]! = (kzero .eqs)[i]'hi := fun i hi => by
    rw [getElem!_pos z.cells i (by omega)]
    simp only [← hzc]
    simp
  have hs := h.newDeep hc (fun _ _ hx => hx.elim) hid (fr := true) (by rw [hF]; exact hek) (v := .slice (some ⟨w.heap.size, 0, none⟩) n.toNat n.toNat) (es := List.replicate n.toNat eqD) (l := [w.heap.size]) (cs := (madeCells z.cells (n.toNat * 2)).toList) (us := List.replicate n.toNat (.slice none 0 0))
    ⟨⟨by rw [List.length_replicate, Array.length_toList, size_madeCells], .inr ⟨w.heap.size, n.toNat, _, (0, 0), by rw [List.length_replicate], heap_alloc_new w _, .inl rfl, by simp, by simp only [maxLen]; omega, size_madeCells _ _, by
      rw [List.length_replicate]
      exact List.take_of_length_le (by rw [Array.length_toList, size_madeCells]; exact Nat.le_refl _)⟩⟩, fun j hj => by
      rw [List.length_replicate] at hj
      rw [getElem?_madeCells, getElem?_madeCells, if_pos (by omega), if_pos (by omega), hz2, hz0 _ (Nat.mod_lt _ (by decide)), hz0 _ (Nat.mod_lt _ (by decide)), List.getElem?_replicate, if_pos hj, List.getD_eq_getElem?_getD, List.getElem?_replicate, if_pos hj]
      simp only [show 2 * j % 2 = 0 by omega, show (2 * j + 1) % 2 = 1 by omega]
      exact ⟨rfl, rfl⟩, ⟨by simp, fun j x hx => by
      rw [List.getElem?_replicate] at hx
      split at hx
      · rename_i hj
        cases hx
        rw [List.getD_eq_getElem?_getD, List.getElem?_replicate, if_pos hj]
        exact ⟨0, rfl, .inl ⟨rfl, rfl⟩⟩
      · cases hx⟩, by
      have : (List.replicate n.toNat (Value.slice none 0 0)).filterMap Value.ownBlock = [] := by
        rw [List.filterMap_eq_nil_iff]
        intro x hx
        rw [List.eq_of_mem_replicate hx]; rfl
      rw [this]; rfl, by simp⟩ (fun b hb => .inr (by simp at hb; omega))
  exact ⟨_, _, _, hrun, hs, .inr rfl, (if_pos rfl).symm⟩
theorem makeCap_ok (htab : TabOk P cx) (hF : F.ek = cx.ek) (h : Sat F σ a w g) {t e : TypeId} (hu : P.underlying t = some (.slice e)) {k : RK} (hk : alook cx.ek.ts e = some k) {m : Nat} (hm : m < two40) {id : Nat} (hid : get σ (.r id) = .no) :
    ∃ v w' g', (Instr.makeSlice t (.int .i64 0) (.int .i64 m)).run P w = .ok v w' ∧ Sat F ((.r id, .row true true (Row.nil k)) :: σ) a w' g' ∧ AVRep g' F.N w' v (.v (.cell (.ref id))) := by
  obtain ⟨⟨⟨i, z, hi, his, hib, hib2, hiz, hzc⟩⟩, hek⟩ := htab.ek e k hk
  simp only [two40] at hm
  have hb : (i.bytes : Int) * (m : Int) ≤ 281474976710656 := by
    have : (i.bytes : Int) * (m : Int) ≤ 64 * (m : Int) := Int.mul_le_mul_of_nonneg_right (by omega) (by omega)
    omega
  have hrun := run_make (P := P) w t e i z hu hi hiz .i64 .i64 0 m (Int.le_refl _) (by omega) hb (by omega)
  rw [his] at hrun
  have hnd : ¬ g.dr id := fun hd => (h.dr id hd).1 hid
  have hc := Chg.alloc (fun _ => False) w (.cells (madeCells z.cells (m * kwd k)) e)
  have hp := h.fresh (Nat.le_refl w.heap.size)
  have h' := h.world hc fun _ _ hx => hx.elim
  have hown : OwnRep (w.alloc (.cells (madeCells z.cells (m * kwd k)) e)) (PG g F.N true) e (.slice (some ⟨w.heap.size, 0, none⟩) 0 m) (Row.nil k) := by
    refine ⟨[], ?_, fun j c hj => ?_⟩
    · have := World.ownsRow_made (e := e) (size := (Row.nil k).wd) (base := 0) w (madeCells z.cells (m * kwd k)) m (Nat.zero_le _) (by simp only [maxLen]; omega) (by rw [size_madeCells]; cases k <;> rfl)
      have e1 : (Row.nil k).len = 0 := by cases k <;> rfl
      rw [e1]
      exact ownsM_of this
    · cases k <;> simp [Row.nil, Row.flat] at hj
  have hs2 := h'.newRow hid (d := Row.nil k) (fr := true) (by rw [nil_kind (htab.na e k hk), hF]; exact hek) hown (hd := nil_flat (htab.na e k hk)) fun b hb => by
    have hb' : b = w.heap.size := by
      simp only [Value.ownBlock, Option.some.injEq] at hb
      exact hb.symm
    subst hb'
    exact ⟨hp, fun _ => F.hN _ (by have := h.base; have := h.chg.size; omega)⟩
  exact ⟨_, _, _, hrun, hs2, .inr rfl, (if_pos rfl).symm⟩
theorem app_flat {d1 d2 d : Row} (h : d1.app d2 = some d) : d.flat = d1.flat ++ d2.flat ∧ d.len = d1.len + d2.len ∧ d.kind = d1.kind ∧ d.wd = d1.wd ∧ d2.wd = d1.wd := by
  cases d1 <;> cases d2 <;> simp only [Row.app] at h
  all_goals first
    | (split at h
       · rename_i hk
         obtain rfl := IntKind.eqb_iff.1 hk
         cases h
         exact ⟨by simp [Row.flat], by simp [Row.len], rfl, rfl, rfl⟩
       · cases h)
    | (cases h; exact ⟨by simp [Row.flat], by simp [Row.len], rfl, rfl, rfl⟩)
    | cases h
theorem flat_one {w : World} {Pj : Nat → Prop} {d : Row} {j : Nat} {c : DC} {x : Value} (hc : d.flat[j]? = some c) (hx : DRep w Pj x c) : x.oneCell' = true := by
  cases c with
  | ir xs => obtain ⟨A, cap, rfl, _⟩ := hx; rfl
  | sc v =>
    obtain rfl := (hx : x = v)
    have hm := List.mem_of_getElem? hc
    cases d with
    | ints k xs => simp [Row.flat] at hm; obtain ⟨n, _, rfl⟩ := hm; rfl
    | strs xs => simp [Row.flat] at hm; obtain ⟨n, _, rfl⟩ := hm; rfl
    | eqs xs => simp [Row.flat] at hm; obtain ⟨_, n, _, rfl⟩ := hm; rfl
    | deqs xs => simp [Row.flat] at hm; obtain ⟨_, n, _, rfl⟩ := hm; rfl
    | arr k xs => simp [Row.flat] at hm; obtain ⟨n, _, rfl⟩ := hm; rfl
theorem appFr_l (d : Row) {a b : Bool} {j : Nat} (h : PG g F.N a j) : PG g F.N (appFr d a b) j := by
  cases d with
  | eqs _ => exact h.and_l
  | deqs _ => exact h
  | arr _ _ => exact h
  | ints _ _ => exact h
  | strs _ => exact h
theorem appFr_t {d : Row} {a b : Bool} (h : appFr d a b = true) : a = true := by
  cases d with
  | eqs _ => simp [appFr] at h; exact h.1
  | deqs _ => exact h
  | arr _ _ => exact h
  | ints _ _ => exact h
  | strs _ => exact h
theorem appFr_r {w' : World} {X : Nat → Prop} (hch : Chg X w w') {d d2 d' : Row} (happ : d.app d2 = some d') {a b : Bool} (hx : ∀ j, PG g F.N b j → ¬ X j) {j : Nat} {c : DC} (hc : d2.flat[j]? = some c) {x : Value} (h : DRep w (PG g F.N b) x c) : DRep w' (PG g F.N (appFr d a b)) x c := by
  cases c with
  | sc v => exact h
  | ir xs =>
    have hm := List.mem_of_getElem? hc
    cases d2 with
    | ints k xs => simp [Row.flat] at hm
    | strs xs => simp [Row.flat] at hm
    | arr k xs => simp [Row.flat] at hm
    | eqs ys =>
      cases d with
      | arr k xs => cases happ
      | ints k xs => cases happ
      | strs xs => cases happ
      | deqs zs => cases happ
      | eqs zs => exact DRep.chg hch hx (fun j hj => hj.and_r) h
    | deqs ys => cases d <;> cases happ
/-- '[]byte(s)': a row of one's own, with a mark behind it. -/
theorem bytes_ok (hF : F.ek = cx.ek) (h : Sat F σ a w g) {ta tb e : TypeId} (hA : P.underlying ta = some .string) (hB : P.underlying tb = some (.slice e)) (hE : P.underlying e = some (.int .u8)) (hek : ekOf cx.ek (.ints .u8) = some e) {s : ByteArray} (hs : s.size < two40) {id : Nat} (hid : get σ (.r id) = .no) :
    ∃ v w' g', (convert ta tb (.string s)).run P w = .ok v w' ∧ Sat F ((.r id, .row true true (.ints .u8 (bytesL s))) :: σ) a w' g' ∧ AVRep g' F.N w' v (.v (.cell (.ref id))) := by
  simp only [two40] at hs
  have hrun := run_bytes_of_string (P := P) w ta tb e s hA hB hE
  generalize hcap : grownCap w s.size 0 e = cap at hrun
  have hge : s.size ≤ cap := by rw [← hcap]; exact grownCap_ge w s.size 0 e
  have hle : cap ≤ maxLen := by rw [← hcap]; exact grownCap_le_maxLen w s.size 0 e (by simp only [maxLen]; omega)
  have hsz : (bytesRow s cap).size = cap := by
    have : s.data.size = s.size := rfl
    simp [bytesRow]; omega
  have hbl : (bytesL s).length = s.size := by simp [bytesL]
  have hc1 : Chg (fun _ => False) w w.drew := Chg.drew _ w
  have hc := hc1.trans (Chg.alloc (fun _ => False) w.drew (.cells (bytesRow s cap) e ((bytesRow s cap).size, (bytesRow s cap).size + 1)))
  have hp := h.fresh (Nat.le_refl w.heap.size)
  have h' := h.world hc fun _ _ hx => hx.elim
  have hnew : (w.drew.alloc (.cells (bytesRow s cap) e ((bytesRow s cap).size, (bytesRow s cap).size + 1))).heap[w.heap.size]? = some (.cells (bytesRow s cap) e ((bytesRow s cap).size, (bytesRow s cap).size + 1)) := heap_alloc_new w.drew _
  have hown : OwnRep (w.drew.alloc (.cells (bytesRow s cap) e ((bytesRow s cap).size, (bytesRow s cap).size + 1))) (PG g F.N true) e (.slice (some ⟨w.heap.size, 0, none⟩) s.size cap) (.ints .u8 (bytesL s)) := by
    refine ⟨(bytesL s).map (Value.int .u8), ⟨by simp [Row.len, Row.wd], .inr ⟨w.heap.size, cap, _, _, by show _ = Value.slice _ (bytesL s).length cap; rw [hbl], hnew, .inr ⟨rfl, Nat.le_refl _⟩, by show (bytesL s).length ≤ cap; omega, hle, by rw [hsz]; simp [Row.wd], ?_⟩⟩, fun j c hj => ?_⟩
    · show (bytesRow s cap).toList.take ((bytesL s).length * 1) = _
      simp only [bytesRow, bytesL, Nat.mul_one, List.length_map, Array.toList_append, Array.toList_map, Array.toList_replicate, List.map_map]
      rw [List.take_left' (by simp)]
      rfl
    · simp only [Row.flat, List.getElem?_map, Option.map_eq_some_iff] at hj
      obtain ⟨n, hn, rfl⟩ := hj
      exact ⟨.int .u8 n, by simp [hn], rfl⟩
  have hs2 := h'.newRow hid (d := .ints .u8 (bytesL s)) (fr := true) (by rw [hF]; exact hek) hown fun b hb => by
    have hb' : b = w.heap.size := by
      simp only [Value.ownBlock, Option.some.injEq] at hb
      exact hb.symm
    subst hb'
    exact ⟨⟨hp.ng, hp.row, hp.box, hp.base⟩, fun _ => F.hN _ (by have := h.base; have := h.chg.size; omega)⟩
  exact ⟨_, _, _, hrun, hs2, .inr rfl, (if_pos rfl).symm⟩
/-- An append to a row of one's own that may bear a mark. -/
theorem run_appendM {t ty e : TypeId} {i : TypeInfo} {z : Value} {size : Nat} (ht : P.underlying t = some (.slice e)) (hi : P.info? e = some i) (hz : i.zero = some z) (hsize : i.size = size) (hzs : z.cells.size = size) (hsz : 0 < size)
    {m : Bool} {v : Value} {n : Nat} {xs : List Value} (ho : ownsM w m e size v n xs) {a : Addr} {l c : Nat} {news : List Value} (hl : news.length = l * size) (hnews : ∀ (j : Nat) u, news[j]? = some u → w.cell? (a.add j) = some u) (h1 : ∀ u ∈ news, u.oneCell' = true)
    (h63 : n + l ≤ maxLen) (hbytes : (n + l) * i.bytes ≤ 140737488355328) :
    ∃ v' w', (Builtin.append_ #[t, t] ty #[v, .slice (some a) l c]).run P w = .ok v' w' ∧ ownsM w' m e size v' (n + l) (xs ++ news) ∧ w.grownBy w' v.ownBlock ∧ (v'.ownBlock = v.ownBlock ∨ v'.ownBlock = some w.heap.size) := by
  have plain : ownsM w false e size v n xs → ∃ v' w', (Builtin.append_ #[t, t] ty #[v, .slice (some a) l c]).run P w = .ok v' w' ∧ ownsM w' m e size v' (n + l) (xs ++ news) ∧ w.grownBy w' v.ownBlock ∧ (v'.ownBlock = v.ownBlock ∨ v'.ownBlock = some w.heap.size) := fun h => by
    obtain ⟨v', w', q1, q2, q3, _, q4⟩ := run_append_own_at (P := P) w 0 t ty e i z size i.bytes ht hi hz hsize rfl hzs hsz v n xs (ownsM_to h) a l c news hl hnews h1 h63 hbytes (Nat.zero_le _)
    exact ⟨v', w', q1, ownsM_of (m := m) q2, q3, q4⟩
  rcases ho.2 with hn | ⟨b, cap, cur, fz, rfl, hg, hfz, hnc, hcm, hcs, htake⟩
  · exact plain ⟨ho.1, .inl hn⟩
  rcases hfz with rfl | ⟨hm, hfz⟩
  · exact plain ⟨ho.1, .inr ⟨b, cap, cur, _, rfl, hg, .inl rfl, hnc, hcm, hcs, htake⟩⟩
  subst hsize
  have hlen : (xs ++ news).length = (n + l) * i.size := by rw [List.length_append, ho.1, hl, Nat.add_mul]
  by_cases hroom : n + l ≤ cap
  · have hfit : n * i.size + news.length ≤ cur.size := by rw [hl, hcs, ← Nat.add_mul]; exact Nat.mul_le_mul_right _ hroom
    have hst := run_storeM P b (n * i.size) e fz news 0 cur w hg (.inr hfz) (by simpa using hfit) h1
    simp only [Nat.add_zero] at hst
    have hf := run_firstCells_some (P := P) w i.size l a l c news hl hnews
    have hrun : (Builtin.append_ #[t, t] ty #[.slice (some ⟨b, 0, none⟩) n cap, .slice (some a) l c]).run P w = .ok (.slice (some ⟨b, 0, none⟩) (n + l) cap) (w.setRow b (cur.toList.take (n * i.size) ++ news ++ cur.toList.drop (n * i.size + news.length)).toArray) := by
      simp [Builtin.append_, run_underlying ht, Go.sizeOf, typeInfo, hi, Builtin.lenOf, hroom, hf, Addr.add_lit, hst]
    refine ⟨_, _, hrun, ⟨hlen, .inr ⟨b, cap, _, fz, rfl, setRow_heap w b cur _ e _ hg, .inr ⟨hm, ?_⟩, hroom, hcm, ?_, ?_⟩⟩, ⟨rfl, rfl, rfl, by simp, fun k _ hk => setRow_other w b k _ (fun e => hk (by simp [Value.ownBlock, e]))⟩, Or.inl rfl⟩
    · simp only [List.size_toArray, List.length_append, List.length_take, List.length_drop, Array.length_toList]
      omega
    · simp only [List.size_toArray, List.length_append, List.length_take, List.length_drop, Array.length_toList]
      omega
    · rw [htake, ← hlen]
      exact List.take_left
  · have holds : ∀ j u, xs[j]? = some u → w.cell? ((⟨b, 0, none⟩ : Addr).add j) = some u := ownsM_cells ho (g := b) rfl
    have hr := run_append_grow (P := P) (ty := ty) w t e i z ht hi hz ⟨b, 0, none⟩ n cap xs ho.1 holds a l c news hl hnews (by omega) (by simp only [maxLen] at h63; omega) (growslice_fits (by omega) hbytes)
    have hge := grownCap_ge w (n + l) cap e
    refine ⟨_, _, hr, ⟨hlen, .inr ⟨w.heap.size, _, _, (0, 0), rfl, heap_alloc_new w.drew _, .inl rfl, hge, grownCap_le_maxLen w (n + l) cap e h63, ?_, ?_⟩⟩, ⟨rfl, rfl, rfl, by simp, fun k hk _ => Below.heap_alloc w.drew _ k hk⟩, Or.inr rfl⟩
    · simp only [Array.size_append, List.size_toArray, size_zeroCells, hzs, ho.1, hl, ← Nat.add_mul]
      congr 1
      omega
    · simp only [Array.toList_append, List.append_assoc]
      rw [← List.append_assoc, ← hlen]
      exact List.take_left
theorem append_ok (htab : TabOk P cx) (hF : F.ek = cx.ek) (h : Sat F σ a w g) {t ty e : TypeId} (hu : P.underlying t = some (.slice e)) {k : RK} (hk : alook cx.ek.ts e = some k) {i : Nat} {fr : Bool} {d : Row} (hi : get σ (.r i) = .row true fr d) (hdk : d.kind = k) (hdr : g.dr i)
    {d2 d' : Row} {fr2 : Bool} {u : Value} (hl2 : RowLook w (PG g F.N fr2) u d2) (happ : d.app d2 = some d') (hn : d.len + d2.len < two40) {id : Nat} (hid : get σ (.r id) = .no) :
    ∃ v w' g', (Builtin.append_ #[t, t] ty #[g.rv i, u]).run P w = .ok v w' ∧ Sat F (push [(.r i, .dead), (.r id, .row true (appFr d fr fr2) d')] σ) a w' g' ∧ AVRep g' F.N w' v (.v (.cell (.ref id))) := by
  obtain ⟨⟨⟨inf, z, hinf, his, hib, hib2, hiz, hzc⟩⟩, hek⟩ := htab.ek e k hk
  obtain ⟨hr1, ⟨hwd, hln⟩, ⟨e', he', ⟨cs, ho, hc⟩, hkb⟩, hb⟩ := h.row i _ _ _ hi
  have hdp : d.deep = false := kind_flat (by rw [hdk]; exact htab.na e k hk)
  rw [rg_flat hdp] at hc
  have hee : e' = e := by rw [hdk, hF] at he'; exact Option.some.inj (he'.symm.trans hek)
  subst hee
  have hzs : z.cells.size = kwd k := by rw [← Array.length_toList, hzc]; cases k <;> rfl
  have hwk : d.wd = kwd k := kind_flat_nil hdk
  obtain ⟨hf1, hf2, hf3, hf4, hf5⟩ := app_flat happ
  obtain ⟨A, cap, rfl, hcap, hcells⟩ := hl2
  simp only [two40] at hn
  have hpos : 0 < kwd k := by cases k <;> simp [kwd]
  obtain ⟨hk1, hk2⟩ := h.kill hi
  have hne : Loc.r id ≠ Loc.r i := fun e => by rw [e, hi] at hid; cases hid
  have hid' : get ((Loc.r i, Ct.dead) :: σ) (.r id) = .no := by rw [get_other hne]; exact hid
  have hnd : ¬ g.dr id := fun hd => (h.dr id hd).1 hid
  -- the cells that are put behind
  have fin : ∀ (v : Value) (w' : World) (news : List Value), (Builtin.append_ #[t, t] ty #[g.rv i, .slice A d2.len cap]).run P w = .ok v w' → ownsM w' d.isB e' (kwd k) v (d.len + d2.len) (cs ++ news) → Chg (fun j => (g.rv i).ownBlock = some j) w w' → (∀ b, v.ownBlock = some b → (g.rv i).ownBlock = some b ∨ w.heap.size ≤ b) →
      All2 (DRep w (PG g F.N fr2)) news d2.flat →
      ∃ v w' g', (Builtin.append_ #[t, t] ty #[g.rv i, .slice A d2.len cap]).run P w = .ok v w' ∧ Sat F (push [(.r i, .dead), (.r id, .row true (appFr d fr fr2) d')] σ) a w' g' ∧ AVRep g' F.N w' v (.v (.cell (.ref id))) := fun v w' news hrun hown hch hvb hnews => by
    have hs := hk1.world hch fun j hj hx => hk2 j (hkb.out j hx)
    have hng : ∀ x, ∀ j, PG g F.N x j → ¬ (g.rv i).ownBlock = some j := fun x j hj e => (hb j (hkb.out j e)).1 hj.1
    have hown' : OwnRep w' (PG g F.N (appFr d fr fr2)) e' v d' := by
      refine ⟨cs ++ news, by rw [hf4, hf2, hwk, isB_kind hf3]; exact hown, fun j c hj => ?_⟩
      rw [hf1] at hj
      have hcl : cs.length = d.flat.length := by rw [ho.1, flat_len]
      by_cases hlt : j < d.flat.length
      · rw [List.getElem?_append_left hlt] at hj
        obtain ⟨x, hx1, hx2⟩ := hc j c hj
        exact ⟨x, by rw [List.getElem?_append_left (by omega)]; exact hx1, hx2.chg hch (hng _) fun _ hp => appFr_l d hp⟩
      · rw [List.getElem?_append_right (by omega)] at hj
        obtain ⟨x, hx1, hx2⟩ := hnews.get _ c hj
        exact ⟨x, by rw [List.getElem?_append_right (by omega), hcl]; exact hx1, appFr_r hch happ (hng _) hj hx2⟩
    refine ⟨v, w', _, hrun, hs.newRow hid' (by rw [hf3, hdk, hF]; exact hek) hown' (fun b hvb' => ?_) (kind_flat (by rw [hf3, hdk]; exact htab.na e' k hk)), .inr rfl, (if_pos rfl).symm⟩
    rcases hvb b hvb' with hob | hge
    · exact ⟨hk2 b (hkb.out b hob), fun hfr => (hb b (hkb.out b hob)).2.2 (appFr_t hfr)⟩
    · refine ⟨hk1.fresh hge, fun _ => F.hN _ ?_⟩
      have := h.base; have := h.chg.size; omega
  cases A with
  | none =>
    have hz : d2.len = 0 := by
      rcases Nat.eq_zero_or_pos d2.len with h0 | h0
      · exact h0
      · obtain ⟨ad, ha, _⟩ := hcells h0; cases ha
    have hd2 : d2.flat = [] := List.eq_nil_of_length_eq_zero (by rw [flat_len, hz, Nat.zero_mul])
    have hrun : (Builtin.append_ #[t, t] ty #[g.rv i, .slice none d2.len cap]).run P w = .ok (g.rv i) w := by
      rw [hz]
      rcases ho.2 with ⟨e0, hl0⟩ | ⟨b, cap', cur, fz, e0, _, _, hle, _⟩
      · rw [e0]
        simp [Builtin.append_, run_underlying hu, Go.sizeOf, typeInfo, hinf, Builtin.lenOf, Builtin.firstCells]
      · rw [e0]
        simp [Builtin.append_, run_underlying hu, Go.sizeOf, typeInfo, hinf, Builtin.lenOf, Builtin.firstCells, hle, storeCells]
    refine fin _ _ [] hrun ?_ (Chg.refl _ w) (fun b hb => .inl hb) (by rw [hd2]; exact .nil)
    rw [hz, Nat.add_zero, List.append_nil, ← hwk]
    exact ho
  | some ad =>
    obtain ⟨news, hnl, hnews⟩ := list_of_cells (n := d2.len * kwd k) (p := fun j x => w.cell? (ad.add j) = some x ∧ ∀ c, d2.flat[j]? = some c → DRep w (PG g F.N fr2) x c) fun j hj => by
      have h0 : 0 < d2.len := by
        rcases Nat.eq_zero_or_pos d2.len with h0 | h0
        · rw [h0, Nat.zero_mul] at hj; omega
        · exact h0
      obtain ⟨ad', ha, hcc⟩ := hcells h0
      injection ha with ha
      subst ha
      have hlt : j < d2.flat.length := by rw [flat_len, hf5, hwk]; exact hj
      obtain ⟨x, hx1, hx2⟩ := hcc j _ (List.getElem?_eq_getElem hlt)
      exact ⟨x, hx1, fun c hc => by rw [List.getElem?_eq_getElem hlt] at hc; cases hc; exact hx2⟩
    have hfl2 : d2.flat.length = d2.len * kwd k := by rw [flat_len, hf5, hwk]
    have hb64 : (d.len + d2.len) * inf.bytes ≤ (d.len + d2.len) * 64 := Nat.mul_le_mul_left _ hib2
    obtain ⟨v, w', hrun, hown, hgr, hvb⟩ := run_appendM (P := P) (ty := ty) (c := cap) hu hinf hiz his hzs hpos (m := d.isB) (v := g.rv i) (n := d.len) (xs := cs) (by rw [← hwk]; exact ho) (l := d2.len) hnl (fun j u hj => (hnews j u hj).1) (fun u hu => by
        obtain ⟨j, hj, hju⟩ := List.getElem_of_mem hu
        have hj' : news[j]? = some u := by rw [List.getElem?_eq_getElem hj, hju]
        have hlt : j < d2.flat.length := by rw [hfl2]; omega
        exact flat_one (List.getElem?_eq_getElem hlt) ((hnews j u hj').2 _ (List.getElem?_eq_getElem hlt))) (by simp only [maxLen]; omega) (by omega)
    refine fin v w' news hrun hown (Chg.grown hgr) (fun b hbv => ?_) (All2.of_get (by rw [hnl, hfl2]) fun j x c hx hc => (hnews j x hx).2 c hc)
    rcases hvb with hvb | hvb
    · exact .inl (by rw [← hvb]; exact hbv)
    · rw [hvb] at hbv
      injection hbv with hbv
      exact .inr (by omega)
theorem nodup_app {A1 A2 U1 U2 : List Nat} (h1 : (A1 ++ U1).Nodup) (h2 : (A2 ++ U2).Nodup) (h12 : ∀ b ∈ A1 ++ U1, b ∉ A2 ++ U2) {V : List Nat} (hV : V.Nodup) (hv : ∀ b ∈ V, b ∈ A1 ∨ (b ∉ A1 ++ U1 ∧ b ∉ A2 ++ U2)) : (V ++ (U1 ++ U2)).Nodup := by
  grind
theorem appendDeep_ok (htab : TabOk P cx) (hF : F.ek = cx.ek) (h : Sat F σ a w g) {t ty e : TypeId} (hu : P.underlying t = some (.slice e)) (hk : alook cx.ek.ts e = some .eqs) {i : Nat} {fr : Bool} {es : List (List Int × ByteArray)} (hi : get σ (.r i) = .row true fr (.deqs es))
    {j : Nat} {fr2 : Bool} {vs : List (List Int × ByteArray)} (hj : get σ (.r j) = .row true fr2 (.deqs vs)) (hij : i ≠ j) (hn : es.length + vs.length < two40) {id : Nat} (hid : get σ (.r id) = .no) :
    ∃ v w' g', (Builtin.append_ #[t, t] ty #[g.rv i, g.rv j]).run P w = .ok v w' ∧ Sat F (push [(.r i, .dead), (.r j, .dead), (.r id, .row true (fr && fr2) (.deqs (es ++ vs)))] σ) a w' g' ∧ AVRep g' F.N w' v (.v (.cell (.ref id))) := by
  obtain ⟨⟨⟨inf, z, hinf, his, hib, hib2, hiz, hzc⟩⟩, hek⟩ := htab.ek e _ hk
  have hek' : ekOf F.ek .deqs = some e := by rw [hF]; exact hek
  obtain ⟨_, _, ⟨e1, he1, ho1, hk1⟩, hb1⟩ := h.row i _ _ _ hi
  obtain ⟨_, _, ⟨e2, he2, ho2, hk2⟩, hb2⟩ := h.row j _ _ _ hj
  have : e1 = e := Option.some.inj (he1.symm.trans hek')
  subst this
  have : e2 = e1 := Option.some.inj (he2.symm.trans hek')
  subst this
  obtain ⟨cs1, us1, D1⟩ := DeepRep.of ho1 hk1
  obtain ⟨cs2, us2, D2⟩ := DeepRep.of ho2 hk2
  have hzs : z.cells.size = 2 := by rw [← Array.length_toList, hzc]; rfl
  simp only [two40] at hn
  obtain ⟨s1, p1⟩ := h.kill hi
  have hj1 : get ((Loc.r i, Ct.dead) :: σ) (.r j) = .row true fr2 (.deqs vs) := by rw [get_other (Loc.r_ne hij.symm)]; exact hj
  obtain ⟨s2, p2⟩ := s1.kill hj1
  have hid2 : get ((Loc.r j, Ct.dead) :: (Loc.r i, Ct.dead) :: σ) (.r id) = .no := by
    have n1 : Loc.r id ≠ Loc.r j := fun e => by rw [e, hj] at hid; cases hid
    have n2 : Loc.r id ≠ Loc.r i := fun e => by rw [e, hi] at hid; cases hid
    rw [get_other n1, get_other n2]
    exact hid
  have p1' : ∀ b, b ∈ g.ob i → Priv F ((Loc.r j, Ct.dead) :: (Loc.r i, Ct.dead) :: σ) g b := fun b hb => (p1 b hb).dead j
  have hsep : ∀ b, b ∈ g.ob i → b ∉ g.ob j := fun b hb => h.sepR i j _ _ _ _ b hij hi hj hb
  have lt1 : ∀ b, b ∈ g.ob i → b < w.heap.size := hk1.lt ho1
  have lt2 : ∀ b, b ∈ g.ob j → b < w.heap.size := hk2.lt ho2
  have fin : ∀ (v : Value) (w' : World), (Builtin.append_ #[t, t] ty #[g.rv i, g.rv j]).run P w = .ok v w' → ownsM w' false e2 2 v (es.length + vs.length) (cs1 ++ cs2) → Chg (fun b => (g.rv i).ownBlock = some b) w w' → (∀ b, v.ownBlock = some b → (g.rv i).ownBlock = some b ∨ w.heap.size ≤ b) →
      ∃ v w' g', (Builtin.append_ #[t, t] ty #[g.rv i, g.rv j]).run P w = .ok v w' ∧ Sat F (push [(.r i, .dead), (.r j, .dead), (.r id, .row true (fr && fr2) (.deqs (es ++ vs)))] σ) a w' g' ∧ AVRep g' F.N w' v (.v (.cell (.ref id))) := fun v w' hrun hown hch hvb => by
    have hn1 := D1.apart
    have hn2 : ∀ b, b ∈ us2.filterMap Value.ownBlock → ¬ (g.rv i).ownBlock = some b := fun b hb e => hsep b (hk1.out b e) (by rw [D2.blk]; exact List.mem_append_right _ hb)
    have i1 := D1.inn.chg hch hn1
    have i2 := D2.inn.chg hch hn2
    have hl1 : us1.length = es.length := D1.inn.1
    have hc1 : cs1.length = es.length * 2 := D1.own.1
    have hD : DeepRep w' e2 v (es ++ vs) (v.ownBlock.toList ++ (us1 ++ us2).filterMap Value.ownBlock) (cs1 ++ cs2) (us1 ++ us2) := by
      refine ⟨by rw [List.length_append]; exact hown, D1.prs.append D2.prs D1.own.1 hl1, i1.append i2, rfl, ?_⟩
      · rw [List.filterMap_append]
        refine nodup_app (A1 := (g.rv i).ownBlock.toList) (A2 := (g.rv j).ownBlock.toList) (by rw [← D1.blk]; exact D1.nd) (by rw [← D2.blk]; exact D2.nd) (by rw [← D1.blk, ← D2.blk]; exact hsep) (toList_nodup _) fun b hb => ?_
        have hb' : v.ownBlock = some b := by simpa using hb
        rcases hvb b hb' with h | h
        · exact .inl (by rw [h]; simp)
        · refine .inr ⟨fun hm => ?_, fun hm => ?_⟩
          · have := lt1 b (by rw [D1.blk]; exact hm); omega
          · have := lt2 b (by rw [D2.blk]; exact hm); omega
    have hs := s2.newDeep hch (fun b _ hx => p1' b (hk1.out b hx)) hid2 (fr := fr && fr2) hek' hD fun b hb => by
      have hcase : b ∈ g.ob i ∨ b ∈ g.ob j ∨ w.heap.size ≤ b := by
        rcases List.mem_append.1 hb with hb | hb
        · rcases hvb b (by simpa using hb) with h | h
          · exact .inl (hk1.out b h)
          · exact .inr (.inr h)
        · rw [List.filterMap_append] at hb
          rcases List.mem_append.1 hb with hb | hb
          · exact .inl (by rw [D1.blk]; exact List.mem_append_right _ hb)
          · exact .inr (.inl (by rw [D2.blk]; exact List.mem_append_right _ hb))
      rcases hcase with hb | hb | hb
      · exact .inl ⟨p1' b hb, fun hf => (hb1 b hb).2.2 (by cases fr <;> simp_all)⟩
      · exact .inl ⟨p2 b hb, fun hf => (hb2 b hb).2.2 (by cases fr <;> cases fr2 <;> simp_all)⟩
      · exact .inr hb
    exact ⟨v, w', _, hrun, hs, .inr rfl, (if_pos rfl).symm⟩
  rcases D2.own.2 with ⟨hv2, hl2⟩ | ⟨b2, cap2, cur2, fz2, hv2, hg2, _⟩
  · have hc2 : cs2 = [] := List.eq_nil_of_length_eq_zero (by rw [D2.own.1, hl2, Nat.zero_mul])
    have hrun : (Builtin.append_ #[t, t] ty #[g.rv i, g.rv j]).run P w = .ok (g.rv i) w := by
      rw [hv2]
      rcases D1.own.2 with ⟨e0, hl0⟩ | ⟨b, cap', cur, fz, e0, _, _, hle, _⟩
      · rw [e0]
        simp [Builtin.append_, run_underlying hu, Go.sizeOf, typeInfo, hinf, Builtin.lenOf, Builtin.firstCells]
      · rw [e0]
        simp [Builtin.append_, run_underlying hu, Go.sizeOf, typeInfo, hinf, Builtin.lenOf, Builtin.firstCells, hle, storeCells]
    refine fin _ _ hrun ?_ (Chg.refl _ w) fun b hb => .inl hb
    rw [hl2, Nat.add_zero, hc2, List.append_nil]
    exact D1.own
  · have hb64 : (es.length + vs.length) * inf.bytes ≤ (es.length + vs.length) * 64 := Nat.mul_le_mul_left _ hib2
    have hcell := ownsM_cells D2.own (g := b2) (by rw [hv2]; rfl)
    obtain ⟨v, w', hrun, hown, hgr, hvb⟩ := run_appendM (P := P) (ty := ty) (c := cap2) (a := ⟨b2, 0, none⟩) hu hinf hiz his hzs (by decide) D1.own (l := vs.length) (news := cs2) D2.own.1 hcell D2.one (by simp only [maxLen]; omega) (by omega)
    rw [← hv2] at hrun
    refine fin v w' hrun hown (Chg.grown hgr) fun b hbv => ?_
    rcases hvb with hvb | hvb
    · exact .inl (by rw [← hvb]; exact hbv)
    · rw [hvb] at hbv
      injection hbv with hbv
      exact .inr (by omega)
end
end Vx
