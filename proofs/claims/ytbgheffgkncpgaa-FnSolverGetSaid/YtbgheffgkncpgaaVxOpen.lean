/- A law's arguments, opened into data. Conditions: those that each theorem states. -/
import Derived.Test.YtbgheffgkncpgaaVxN1
import Derived.Deep.Slices
import Derived.ChangeArms
import Derived.ChangeSame
import Derived.DataReads
import Derived.WideShapes
import Derived.Deep.Strs
import Derived.Lib.SmallJoins
set_option linter.unusedVariables false
set_option linter.unusedSimpArgs false
namespace Vx
open Go Go.RowKit Go.ChangeShapes Go.WideShapes

abbrev inW (W : World) (j : Nat) : Prop := j < W.heap.size
/-- What reads as data of type t has cells that stand for data, and good ones. -/
def Rdg (P : Program) (t : TypeId) (n : Nat) (good : List SC → Prop) : Prop :=
  P.cellsOf t = n ∧ ∀ {H : Type} (enc : TypeId × Value → H) (W : World) (sp : Nat → Bool) (hd : Bool) (fuel : Nat) (cs : List Value) (x : DataW H × List MemPlace),
    DataW.trod enc P W 0 sp hd fuel t cs = some x → ∃ xs : List SC, cs.length = n ∧ All2 (SCRep W (inW W)) cs xs ∧ good xs
theorem rdg_int {P : Program} {t : TypeId} (k : IntKind) (ht : P.underlying t = some (.int k)) (hc : P.cellsOf t = 1) : Rdg P t 1 (fun xs => ∃ n, xs = [.sc (.int k n)] ∧ (Lit.int k n).wf = true) := by
  refine ⟨hc, fun enc W sp hd fuel cs x h => ?_⟩
  obtain ⟨n, rfl, _, hw⟩ := DataW.trod_int ht h
  exact ⟨[.sc (.int k n)], rfl, .cons rfl .nil, n, rfl, hw⟩
theorem rdg_str {P : Program} {t : TypeId} (ht : P.underlying t = some .string) (hc : P.cellsOf t = 1) : Rdg P t 1 (fun xs => ∃ s : ByteArray, xs = [.sc (.string s)] ∧ s.size ≤ maxLen) := by
  refine ⟨hc, fun enc W sp hd fuel cs x h => ?_⟩
  obtain ⟨s, rfl, _, hw⟩ := DataW.trod_string ht h
  exact ⟨[.sc (.string s)], rfl, .cons rfl .nil, s, rfl, hw⟩
/-- A slice: its elements' data, by a row's kind. -/
theorem rdg_slice {α : Type} [Inhabited α] {P : Program} {t e : TypeId} {sz : Nat} (mk : List α → Row) (toDC : α → List DC) (hwd : ∀ xs, (mk xs).wd = sz) (hlen : ∀ xs, (mk xs).len = xs.length) (hcells : ∀ xs i (h : i < xs.length), (mk xs).cells i = toDC xs[i])
    {good : α → Prop} (ht : P.underlying t = some (.slice e)) (hc : P.cellsOf t = 1) (hce : P.cellsOf e = sz)
    (he : ∀ {H : Type} (enc : TypeId × Value → H) (W : World) (sp : Nat → Bool) (hd : Bool) (fuel : Nat) (cs : List Value) (x : DataW H × List MemPlace), DataW.trod enc P W 0 sp hd fuel e cs = some x → ∃ a, cs.length = sz ∧ All2 (DRep W (inW W)) cs (toDC a) ∧ good a) :
    Rdg P t 1 (fun xs => ∃ l, xs = [.row (mk l)] ∧ l.length ≤ maxLen ∧ ∀ x ∈ l, good x) := by
  have hpos : 0 < sz := by rw [← hwd []]; exact wd_pos _
  refine ⟨hc, fun enc W sp hd fuel cs x h => ?_⟩
  rcases Go.Deep.open_slice ht h with ⟨rfl, _⟩ | ⟨a, len, cap, m, n, D, Pl, rfl, _, hl, hm, hmm, _, hx⟩
  · exact ⟨[.row (mk [])], rfl, .cons ⟨none, 0, by rw [hlen]; rfl, by rw [hlen]; simp, fun h0 => by rw [hlen] at h0; simp at h0⟩ .nil, [], rfl, by simp, by simp⟩
  · have hlm : len ≤ m := by rw [hmm]; split <;> omega
    obtain ⟨f, hf⟩ := Go.Deep.choose_lt (α := α) (n := len) (p := fun i p => good p ∧ ∃ c : List Value, c.length = sz ∧ All2 (DRep W (inW W)) c (toDC p) ∧ ∀ j u, c[j]? = some u → W.cell? (a.add (i * sz + j)) = some u) (fun i hi => by
      obtain ⟨cs', h1, h2⟩ := hx i (by omega)
      obtain ⟨p, hp, hr, hg⟩ := he enc W sp hd n cs' _ h2
      obtain ⟨_, hcl, hat⟩ := World.cells?_some h1
      rw [hce] at hcl hat
      refine ⟨p, hg, cs', hcl, hr, fun j u hu => ?_⟩
      have hj : j < cs'.length := (List.getElem?_eq_some_iff.1 hu).1
      have := hat j (by omega)
      rw [Vx.add_add] at this
      rw [this, hu])
    have hll : ((List.range len).map f).length = len := by simp
    refine ⟨[.row (mk ((List.range len).map f))], rfl, .cons ⟨some a, cap, by rw [hlen, hll], by rw [hlen, hll]; exact hl, fun h0 => ⟨a, rfl, ?_, fun j c hj => ?_⟩⟩ .nil, (List.range len).map f, rfl, by simp; omega, fun p hp => ?_⟩
    · rw [hlen, hll] at h0
      obtain ⟨_, c, h1, _, h3⟩ := hf 0 h0
      have hc0 := h3 0 _ (List.getElem?_eq_getElem (by omega))
      have := World.block_lt_of_cell? W _ hc0
      rw [add_block] at this
      exact this
    · have hjl := (List.getElem?_eq_some_iff.1 hj).1
      rw [flat_len, hlen, hll, hwd] at hjl
      have hi : j / sz < len := Nat.div_lt_of_lt_mul (by rw [Nat.mul_comm]; exact hjl)
      have hr : j % sz < sz := Nat.mod_lt _ hpos
      have hdec : j / sz * sz + j % sz = j := by rw [Nat.mul_comm]; exact Nat.div_add_mod j sz
      have e1 := flat_cells (mk ((List.range len).map f)) (e := j / sz) (by rw [hlen, hll]; exact hi) (j % sz) (by rw [hwd]; exact hr)
      rw [hwd, hdec, hj, hcells _ _ (by rw [hll]; exact hi)] at e1
      obtain ⟨_, cc, h1, h2, h3⟩ := hf (j / sz) hi
      have e2 : ((List.range len).map f)[j / sz]'(by rw [hll]; exact hi) = f (j / sz) := by simp
      rw [e2] at e1
      obtain ⟨u, hu1, hu2⟩ := h2.get _ _ e1.symm
      refine ⟨u, ?_, hu2⟩
      have := h3 _ _ hu1
      rw [hdec] at this
      exact this
    · obtain ⟨i, hi, rfl⟩ := List.mem_map.1 hp
      exact (hf i (List.mem_range.1 hi)).1
theorem rdg_ints {P : Program} {t e : TypeId} (k : IntKind) (ht : P.underlying t = some (.slice e)) (hc : P.cellsOf t = 1) (he : P.underlying e = some (.int k)) (hce : P.cellsOf e = 1) : Rdg P t 1 (fun xs => ∃ l, xs = [.row (.ints k l)] ∧ l.length ≤ maxLen ∧ ∀ x ∈ l, (Lit.int k x).wf = true) :=
  rdg_slice (α := Int) (fun l => .ints k l) (fun n => [.sc (.int k n)]) (fun _ => rfl) (fun _ => rfl) (fun xs i h => by simp [Row.cells, List.getD, h]) ht hc hce fun enc W sp hd fuel cs x h => by
    obtain ⟨n, rfl, _, hw⟩ := DataW.trod_int he h
    exact ⟨n, rfl, .cons rfl .nil, hw⟩
theorem rdg_strs {P : Program} {t e : TypeId} (ht : P.underlying t = some (.slice e)) (hc : P.cellsOf t = 1) (he : P.underlying e = some .string) (hce : P.cellsOf e = 1) : Rdg P t 1 (fun xs => ∃ l, xs = [.row (.strs l)] ∧ l.length ≤ maxLen ∧ ∀ x ∈ l, x.size ≤ maxLen) :=
  rdg_slice (α := ByteArray) (fun l => .strs l) (fun s => [.sc (.string s)]) (fun _ => rfl) (fun _ => rfl) (fun xs i h => by simp [Row.cells, List.getD, h]) ht hc hce fun enc W sp hd fuel cs x h => by
    obtain ⟨s, rfl, _, hw⟩ := DataW.trod_string he h
    exact ⟨s, rfl, .cons rfl .nil, hw⟩
theorem row_ir {W : World} {u : Value} {l : List Int} (h : RowRep W (inW W) u (.ints .i64 l)) : DRep W (inW W) u (.ir l) := by
  obtain ⟨A, cap, h1, h2, h3⟩ := h
  refine ⟨A, cap, h1, h2, fun h0 => ?_⟩
  obtain ⟨ad, ha, hb, hc⟩ := h3 h0
  refine ⟨ad, ha, hb, fun j hj => ?_⟩
  obtain ⟨x, hx1, hx2⟩ := hc j (.sc (.int .i64 (l.getD j 0))) (by simp [Row.flat, List.getD, hj])
  rw [hx1]; exact congrArg some hx2
theorem rdg_eqs {P : Program} {t e : TypeId} {f0 f1 : Field} (ht : P.underlying t = some (.slice e)) (hc : P.cellsOf t = 1) (he : P.underlying e = some (.struct #[f0, f1])) (hce : P.cellsOf e = 2) (o0 : f0.offset = 0) (o1 : f1.offset = 1)
    {i : TypeId} (h0 : P.underlying f0.type = some (.slice i)) (c0 : P.cellsOf f0.type = 1) (hi : P.underlying i = some (.int .i64)) (ci : P.cellsOf i = 1) (h1 : P.underlying f1.type = some .string) (c1 : P.cellsOf f1.type = 1) :
    Rdg P t 1 (fun xs => ∃ l, xs = [.row (.eqs l)] ∧ l.length ≤ maxLen ∧ ∀ x ∈ l, x.1.length ≤ maxLen ∧ x.2.size ≤ maxLen) :=
  rdg_slice (α := List Int × ByteArray) (fun l => .eqs l) (fun x => [.ir x.1, .sc (.string x.2)]) (fun _ => rfl) (fun _ => rfl) (fun xs i h => by simp [Row.cells, List.getD, h]) ht hc hce fun enc W sp hd fuel cs x h => by
    obtain ⟨y0, y1, n, _, hl, e0, e1⟩ := trod_struct2 he h
    obtain ⟨xs0, l0, r0, l, rfl, g1, g2⟩ := (rdg_ints .i64 h0 c0 hi ci).2 enc W sp hd n _ _ e0
    obtain ⟨s, hs, _, g3⟩ := DataW.trod_string h1 e1
    rw [hce] at hl
    rw [o0, c0, List.drop_zero] at r0
    rw [o1, c1] at hs
    match cs, hl with
    | [u0, u1], _ =>
      refine ⟨(l, s), rfl, .cons ?_ (.cons ?_ .nil), g1, g3⟩
      · cases r0 with
        | cons h1 _ => exact row_ir h1
      · have : u1 = .string s := by simpa using hs
        exact this
/-! structs -/
theorem All2.app {α β : Type} {R : α → β → Prop} {a a' : List α} {b b' : List β} (h : All2 R a b) (h' : All2 R a' b') : All2 R (a ++ a') (b ++ b') := h.append h'
theorem rdg_struct2 {P : Program} {t : TypeId} {f0 f1 : Field} {n0 n1 : Nat} {g0 g1 : List SC → Prop} (ht : P.underlying t = some (.struct #[f0, f1])) (hc : P.cellsOf t = n0 + n1) (o0 : f0.offset = 0) (o1 : f1.offset = n0) (h0 : Rdg P f0.type n0 g0) (h1 : Rdg P f1.type n1 g1) :
    Rdg P t (n0 + n1) (fun xs => ∃ a b, xs = a ++ b ∧ g0 a ∧ g1 b) := by
  refine ⟨hc, fun enc W sp hd fuel cs x h => ?_⟩
  obtain ⟨y0, y1, n, _, hl, e0, e1⟩ := trod_struct2 ht h
  obtain ⟨a, l0, r0, k0⟩ := h0.2 enc W sp hd n _ _ e0
  obtain ⟨b, l1, r1, k1⟩ := h1.2 enc W sp hd n _ _ e1
  rw [o0, h0.1, List.drop_zero] at r0
  rw [o1, h1.1] at r1
  refine ⟨a ++ b, by rw [hl, hc], ?_, a, b, rfl, k0, k1⟩
  have := r0.append r1
  rwa [List.take_of_length_le (l := cs.drop n0) (by rw [List.length_drop]; omega), List.take_append_drop] at this
theorem rdg_struct3 {P : Program} {t : TypeId} {f0 f1 f2 : Field} {n0 n1 n2 : Nat} {g0 g1 g2 : List SC → Prop} (ht : P.underlying t = some (.struct #[f0, f1, f2])) (hc : P.cellsOf t = n0 + (n1 + n2)) (o0 : f0.offset = 0) (o1 : f1.offset = n0) (o2 : f2.offset = n0 + n1) (h0 : Rdg P f0.type n0 g0) (h1 : Rdg P f1.type n1 g1) (h2 : Rdg P f2.type n2 g2) :
    Rdg P t (n0 + (n1 + n2)) (fun xs => ∃ a b c, xs = a ++ (b ++ c) ∧ g0 a ∧ g1 b ∧ g2 c) := by
  refine ⟨hc, fun enc W sp hd fuel cs x h => ?_⟩
  obtain ⟨xs, n, _, _, hl, hlen, hg⟩ := DataW.trod_struct ht h
  match xs, hlen with
  | [y0, y1, y2], _ =>
    obtain ⟨a, l0, r0, k0⟩ := h0.2 enc W sp hd n _ _ (hg 0 f0 rfl)
    obtain ⟨b, l1, r1, k1⟩ := h1.2 enc W sp hd n _ _ (hg 1 f1 rfl)
    obtain ⟨c, l2, r2, k2⟩ := h2.2 enc W sp hd n _ _ (hg 2 f2 rfl)
    rw [o0, h0.1, List.drop_zero] at r0
    rw [o1, h1.1] at r1
    rw [o2, h2.1] at r2
    refine ⟨a ++ (b ++ c), by rw [hl, hc], ?_, a, b, c, rfl, k0, k1, k2⟩
    have := r0.append (r1.append r2)
    rwa [List.take_of_length_le (l := cs.drop (n0 + n1)) (by rw [List.length_drop]; omega), ← List.drop_drop, List.take_append_drop, List.take_append_drop] at this
theorem rdg_struct4 {P : Program} {t : TypeId} {f0 f1 f2 f3 : Field} {n0 n1 n2 n3 : Nat} {g0 g1 g2 g3 : List SC → Prop} (ht : P.underlying t = some (.struct #[f0, f1, f2, f3])) (hc : P.cellsOf t = n0 + (n1 + (n2 + n3))) (o0 : f0.offset = 0) (o1 : f1.offset = n0) (o2 : f2.offset = n0 + n1) (o3 : f3.offset = n0 + (n1 + n2)) (h0 : Rdg P f0.type n0 g0) (h1 : Rdg P f1.type n1 g1) (h2 : Rdg P f2.type n2 g2) (h3 : Rdg P f3.type n3 g3) :
    Rdg P t (n0 + (n1 + (n2 + n3))) (fun xs => ∃ a b c d, xs = a ++ (b ++ (c ++ d)) ∧ g0 a ∧ g1 b ∧ g2 c ∧ g3 d) := by
  refine ⟨hc, fun enc W sp hd fuel cs x h => ?_⟩
  obtain ⟨xs, n, _, _, hl, hlen, hg⟩ := DataW.trod_struct ht h
  match xs, hlen with
  | [y0, y1, y2, y3], _ =>
    obtain ⟨a, l0, r0, k0⟩ := h0.2 enc W sp hd n _ _ (hg 0 f0 rfl)
    obtain ⟨b, l1, r1, k1⟩ := h1.2 enc W sp hd n _ _ (hg 1 f1 rfl)
    obtain ⟨c, l2, r2, k2⟩ := h2.2 enc W sp hd n _ _ (hg 2 f2 rfl)
    obtain ⟨d, l3, r3, k3⟩ := h3.2 enc W sp hd n _ _ (hg 3 f3 rfl)
    rw [o0, h0.1, List.drop_zero] at r0
    rw [o1, h1.1] at r1
    rw [o2, h2.1] at r2
    rw [o3, h3.1] at r3
    refine ⟨a ++ (b ++ (c ++ d)), by rw [hl, hc], ?_, a, b, c, d, rfl, k0, k1, k2, k3⟩
    have := r0.append (r1.append (r2.append r3))
    rw [List.take_of_length_le (l := cs.drop (n0 + (n1 + n2))) (by rw [List.length_drop]; omega)] at this
    simpa only [← Nat.add_assoc, ← List.drop_drop, List.take_append_drop] using this
/-! at an argument -/
theorem arg_struct {H : Type} {enc : TypeId × Value → H} {P : Program} {n : Nat} {t : TypeId} {good : List SC → Prop} {fs : Array Field} {r : Reach} {W : World} {sp : Nat → Bool} {hd : Bool} {b : Nat} {v : Value} {dd : DataW H} {p : List MemPlace}
    (h : Rdg P t n good) (ht : P.underlying t = some (.struct fs)) (hv : Value.okWide P W r b t v) (hx : DataW.Trod enc P W 0 sp hd t v dd p) : ∃ (cs : List Value) (xs : List SC), v = .agg cs.toArray ∧ All2 (SCRep W (inW W)) cs xs ∧ good xs := by
  obtain ⟨cs, rfl, _⟩ := okWide_struct ht hv
  obtain ⟨fuel, hf⟩ := hx
  obtain ⟨xs, _, ha, hg⟩ := h.2 enc W sp hd fuel _ _ hf
  exact ⟨cs.toList, xs, by simp, ha, hg⟩
theorem arg_slice {H : Type} {enc : TypeId × Value → H} {P : Program} {t e : TypeId} {good : List SC → Prop} {r : Reach} {W : World} {sp : Nat → Bool} {hd : Bool} {b : Nat} {v : Value} {dd : DataW H} {p : List MemPlace}
    (h : Rdg P t 1 good) (ht : P.underlying t = some (.slice e)) (hv : Value.okWide P W r b t v) (hx : DataW.Trod enc P W 0 sp hd t v dd p) : ∃ x : SC, SCRep W (inW W) v x ∧ good [x] := by
  obtain ⟨A, n, c, rfl⟩ := okWide_slice ht hv
  obtain ⟨fuel, hf⟩ := hx
  obtain ⟨xs, _, ha, hg⟩ := h.2 enc W sp hd fuel _ _ hf
  have ha : All2 (SCRep W (inW W)) [Value.slice A n c] xs := ha
  cases ha with
  | cons h1 t1 => cases t1; exact ⟨_, h1, hg⟩
end Vx
