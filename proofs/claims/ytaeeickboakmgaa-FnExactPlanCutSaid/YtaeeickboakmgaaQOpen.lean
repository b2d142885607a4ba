/- How Go's data at an argument (structs, slices of structs) read as the kinds that the printed proofs speak of. Conditions: those that each theorem states. -/
import Derived.Test.YtaeeickboakmgaaWAll
import Derived.Deep.Slices
import Derived.ChangeArms
import Derived.ChangeSame
import Derived.DataReads
import Derived.WideShapes
set_option linter.unusedVariables false
set_option linter.unusedSimpArgs false
namespace Go.Proofs.Ytaeeickboakmgaa.X
open Go.RowKit Go.Proofs.YtaeeickboakmgaaW.PrintWords Go.Proofs.YtaeeickboakmgaaW.PrintLast Go.Proofs.YtaeeickboakmgaaW.PrintMore

open Go.ChangeShapes Go.WideShapes
/-- What reads as data of type t is of kind d, and good. -/
def Reading {α : Type} (P : Program) (d : Kd α) (t : TypeId) (good : α → Prop) : Prop :=
  P.cellsOf t = d.sz ∧ ∀ {H : Type} (enc : TypeId × Value → H) (W : World) (sp : Nat → Bool) (hd : Bool) (fuel : Nat) (cs : List Value) (x : DataW H × List MemPlace),
    DataW.trod enc P W 0 sp hd fuel t cs = some x → ∃ a : α, d.K W a cs ∧ good a
theorem reading_int {P : Program} {t : TypeId} (k : IntKind) (ht : P.underlying t = some (.int k)) (hc : P.cellsOf t = 1) : Reading P (Kd.int k) t (fun n => (Lit.int k n).wf = true) := by
  refine ⟨hc, fun enc W sp hd fuel cs x h => ?_⟩
  obtain ⟨n, rfl, _, hw⟩ := DataW.trod_int ht h
  exact ⟨n, rfl, hw⟩
theorem reading_string {P : Program} {t : TypeId} (ht : P.underlying t = some .string) (hc : P.cellsOf t = 1) : Reading P Kd.string t (fun s => s.size ≤ maxLen) := by
  refine ⟨hc, fun enc W sp hd fuel cs x h => ?_⟩
  obtain ⟨s, rfl, _, hw⟩ := DataW.trod_string ht h
  exact ⟨s, rfl, hw⟩
theorem reading_slice {α : Type} [Inhabited α] {P : Program} {d : Kd α} {t e : TypeId} {good : α → Prop} (ht : P.underlying t = some (.slice e)) (hc : P.cellsOf t = 1) (he : Reading P d e good) :
    Reading P (Kd.slice e d) t (fun xs => xs.length ≤ maxLen ∧ ∀ x ∈ xs, good x) := by
  refine ⟨hc, fun enc W sp hd fuel cs x h => ?_⟩
  rcases Go.Deep.open_slice ht h with ⟨rfl, _⟩ | ⟨a, len, cap, m, n, D, Pl, rfl, _, hl, hm, hmm, _, hx⟩
  · exact ⟨[], ⟨none, 0, rfl, Nat.le_refl _, rfl, by simp, fun h0 => absurd h0 (Nat.lt_irrefl 0)⟩, by simp, by simp⟩
  · have hlm : len ≤ m := by rw [hmm]; split <;> omega
    obtain ⟨f, hf⟩ := Go.Deep.choose_lt (α := α) (n := len) (p := fun i p => good p ∧ ∃ c : List Value, c.length = d.sz ∧ d.K W p c ∧ ∀ j u, c[j]? = some u → W.cell? (a.add (i * d.sz + j)) = some u) (fun i hi => by
      obtain ⟨cs', h1, h2⟩ := hx i (by omega)
      obtain ⟨p, hp, hg⟩ := he.2 enc W sp hd n cs' _ h2
      obtain ⟨_, hcl, hat⟩ := World.cells?_some h1
      rw [he.1] at hcl hat
      refine ⟨p, hg, cs', hcl, hp, fun j u hu => ?_⟩
      have hj : j < cs'.length := (List.getElem?_eq_some_iff.1 hu).1
      have := hat j (by omega)
      rw [add_add] at this
      rw [this, hu])
    refine ⟨(List.range len).map f, ⟨some a, cap, by simp, by simpa using hl, by simp, by simp only [List.length_map, List.length_range]; unfold maxLen at hm; omega, fun _ => ⟨a, rfl, fun j p hj => ?_⟩⟩, by simp only [List.length_map, List.length_range]; omega, fun p hp => ?_⟩
    · have hjl : j < len := by
        have := (List.getElem?_eq_some_iff.1 hj).1
        simpa using this
      have e : f j = p := by simpa [hjl] using hj
      subst e
      obtain ⟨_, c, h1, h2, h3⟩ := hf j hjl
      exact ⟨c, h1, h2, h3⟩
    · obtain ⟨i, hi, rfl⟩ := List.mem_map.1 hp
      exact (hf i (List.mem_range.1 hi)).1
theorem reading_struct2 {α β : Type} {P : Program} {a : Kd α} {b : Kd β} {t : TypeId} {f0 f1 : Field} {ga : α → Prop} {gb : β → Prop} (ht : P.underlying t = some (.struct #[f0, f1])) (hc : P.cellsOf t = a.sz + b.sz)
    (o0 : f0.offset = 0) (o1 : f1.offset = a.sz) (h0 : Reading P a f0.type ga) (h1 : Reading P b f1.type gb) : Reading P (Kd.pair a b) t (fun x => ga x.1 ∧ gb x.2) := by
  refine ⟨hc, fun enc W sp hd fuel cs x h => ?_⟩
  obtain ⟨y0, y1, n, _, hl, e0, e1⟩ := trod_struct2 ht h
  obtain ⟨x0, k0, g0⟩ := h0.2 enc W sp hd n _ _ e0
  obtain ⟨x1, k1, g1⟩ := h1.2 enc W sp hd n _ _ e1
  rw [o0, h0.1, List.drop_zero] at k0
  rw [o1, h1.1] at k1
  refine ⟨(x0, x1), ⟨_, _, ?_, k0, k1⟩, g0, g1⟩
  rw [List.take_of_length_le (l := cs.drop a.sz) (by rw [List.length_drop]; omega), List.take_append_drop]
theorem reading_struct3 {α β γ : Type} {P : Program} {a : Kd α} {b : Kd β} {c : Kd γ} {t : TypeId} {f0 f1 f2 : Field} {ga : α → Prop} {gb : β → Prop} {gc : γ → Prop} (ht : P.underlying t = some (.struct #[f0, f1, f2])) (hc : P.cellsOf t = a.sz + (b.sz + c.sz))
    (o0 : f0.offset = 0) (o1 : f1.offset = a.sz) (o2 : f2.offset = a.sz + b.sz) (h0 : Reading P a f0.type ga) (h1 : Reading P b f1.type gb) (h2 : Reading P c f2.type gc) : Reading P (Kd.pair a (Kd.pair b c)) t (fun x => ga x.1 ∧ gb x.2.1 ∧ gc x.2.2) := by
  refine ⟨hc, fun enc W sp hd fuel cs x h => ?_⟩
  obtain ⟨xs, n, _, _, hl, hlen, hg⟩ := DataW.trod_struct ht h
  match xs, hlen with
  | [y0, y1, y2], _ =>
    obtain ⟨x0, k0, g0⟩ := h0.2 enc W sp hd n _ _ (hg 0 f0 rfl)
    obtain ⟨x1, k1, g1⟩ := h1.2 enc W sp hd n _ _ (hg 1 f1 rfl)
    obtain ⟨x2, k2, g2⟩ := h2.2 enc W sp hd n _ _ (hg 2 f2 rfl)
    rw [o0, h0.1, List.drop_zero] at k0
    rw [o1, h1.1] at k1
    rw [o2, h2.1] at k2
    refine ⟨(x0, x1, x2), ⟨_, _, ?_, k0, _, _, rfl, k1, k2⟩, g0, g1, g2⟩
    rw [List.take_of_length_le (l := cs.drop (a.sz + b.sz)) (by rw [List.length_drop]; omega), ← List.drop_drop, List.take_append_drop, List.take_append_drop]
theorem reading_struct4 {α β γ δ : Type} {P : Program} {a : Kd α} {b : Kd β} {c : Kd γ} {d : Kd δ} {t : TypeId} {f0 f1 f2 f3 : Field} {ga : α → Prop} {gb : β → Prop} {gc : γ → Prop} {gd : δ → Prop} (ht : P.underlying t = some (.struct #[f0, f1, f2, f3])) (hc : P.cellsOf t = a.sz + (b.sz + (c.sz + d.sz)))
    (o0 : f0.offset = 0) (o1 : f1.offset = a.sz) (o2 : f2.offset = a.sz + b.sz) (o3 : f3.offset = a.sz + (b.sz + c.sz)) (h0 : Reading P a f0.type ga) (h1 : Reading P b f1.type gb) (h2 : Reading P c f2.type gc) (h3 : Reading P d f3.type gd) : Reading P (Kd.pair a (Kd.pair b (Kd.pair c d))) t (fun x => ga x.1 ∧ gb x.2.1 ∧ gc x.2.2.1 ∧ gd x.2.2.2) := by
  refine ⟨hc, fun enc W sp hd fuel cs x h => ?_⟩
  obtain ⟨xs, n, _, _, hl, hlen, hg⟩ := DataW.trod_struct ht h
  match xs, hlen with
  | [y0, y1, y2, y3], _ =>
    obtain ⟨x0, k0, g0⟩ := h0.2 enc W sp hd n _ _ (hg 0 f0 rfl)
    obtain ⟨x1, k1, g1⟩ := h1.2 enc W sp hd n _ _ (hg 1 f1 rfl)
    obtain ⟨x2, k2, g2⟩ := h2.2 enc W sp hd n _ _ (hg 2 f2 rfl)
    obtain ⟨x3, k3, g3⟩ := h3.2 enc W sp hd n _ _ (hg 3 f3 rfl)
    rw [o0, h0.1, List.drop_zero] at k0
    rw [o1, h1.1] at k1
    rw [o2, h2.1] at k2
    rw [o3, h3.1] at k3
    refine ⟨(x0, x1, x2, x3), ⟨_, _, ?_, k0, _, _, rfl, k1, _, _, rfl, k2, k3⟩, g0, g1, g2, g3⟩
    rw [List.take_of_length_le (l := cs.drop (a.sz + (b.sz + c.sz))) (by rw [List.length_drop]; omega)]
    simp only [← Nat.add_assoc, ← List.drop_drop, List.take_append_drop]
theorem reading_iso {α β : Type} {P : Program} {d : Kd α} {t : TypeId} {good : α → Prop} (f : β → α) (g : α → β) (hfg : ∀ a, f (g a) = a) (h : Reading P d t good) : Reading P (Kd.iso d f) t (fun b => good (f b)) := by
  refine ⟨h.1, fun enc W sp hd fuel cs x hx => ?_⟩
  obtain ⟨a, ha, hg⟩ := h.2 enc W sp hd fuel cs x hx
  exact ⟨g a, by show d.K W (f (g a)) cs; rw [hfg]; exact ha, by show good (f (g a)); rw [hfg]; exact hg⟩
/-- A struct at an argument. -/
theorem reading_arg {α H : Type} {enc : TypeId × Value → H} {P : Program} {d : Kd α} {t : TypeId} {good : α → Prop} {fs : Array Field} {r : Reach} {W : World} {sp : Nat → Bool} {hd : Bool} {b : Nat} {v : Value} {dd : DataW H} {p : List MemPlace}
    (h : Reading P d t good) (ht : P.underlying t = some (.struct fs)) (hv : Value.okWide P W r b t v) (hx : DataW.Trod enc P W 0 sp hd t v dd p) : ∃ a cs, v = .agg cs ∧ d.K W a cs.toList ∧ good a := by
  obtain ⟨cs, rfl, _⟩ := okWide_struct ht hv
  obtain ⟨fuel, hf⟩ := hx
  obtain ⟨a, ha, hg⟩ := h.2 enc W sp hd fuel _ _ hf
  exact ⟨a, cs, rfl, ha, hg⟩
/-- A slice at an argument. -/
theorem reading_slice_arg {α H : Type} {enc : TypeId × Value → H} {P : Program} {d : Kd α} {t e : TypeId} {good : List α → Prop} {r : Reach} {W : World} {sp : Nat → Bool} {hd : Bool} {b : Nat} {v : Value} {dd : DataW H} {p : List MemPlace}
    (h : Reading P (Kd.slice e d) t good) (ht : P.underlying t = some (.slice e)) (hv : Value.okWide P W r b t v) (hx : DataW.Trod enc P W 0 sp hd t v dd p) :
    ∃ (xs : List α) (A : Option Addr) (c : Nat), v = .slice A xs.length c ∧ xs.length ≤ c ∧ d.C W A xs.length xs ∧ good xs := by
  obtain ⟨A, n, c, rfl⟩ := okWide_slice ht hv
  obtain ⟨fuel, hf⟩ := hx
  obtain ⟨xs, ⟨A', c', hc, hl, hC⟩, hg⟩ := h.2 enc W sp hd fuel _ _ hf
  have e0 : (Value.slice A n c) = .slice A' xs.length c' := by simpa [Value.cells] using hc
  injection e0 with h1 h2 h3
  subst h1; subst h3; subst h2
  exact ⟨xs, A, c, rfl, hl, hC, hg⟩

end Go.Proofs.Ytaeeickboakmgaa.X
