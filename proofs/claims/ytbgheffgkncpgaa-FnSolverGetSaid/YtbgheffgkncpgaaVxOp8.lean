/- The operations: what makes rows and boxes. Conditions: those that each theorem states. -/
import Derived.Test.YtbgheffgkncpgaaVxOp7
import Derived.Maps.AppendAt
set_option linter.unusedVariables false
set_option linter.unusedSimpArgs false
namespace Vx
open Go Go.RowKit

section
variable {P : Program} {cx : Cx} {F : Fr} {σ : St} {a : Act} {w : World} {g : Gm}
theorem wr_dst (h : Sat F σ a w g) {dst : Option Tmp} (hd : dstOk F.nt dst = true) {v : Value} {x : AV} (hv : AVRep g F.base w v x) : Sat F (push (wr dst x) σ) (a.put dst v) w g := h.dst hd hv

/-! flat segments -/
theorem fold_set (vs : List Value) : ∀ (off k : Nat) (cells : Array Value), off + k + vs.length ≤ cells.size →
    ((vs.zipIdx k).foldl (fun cs (x : Value × Nat) => cs.setIfInBounds (off + x.2) x.1) cells).toList = replAt cells.toList (off + k) vs := by
  induction vs with
  | nil => intro off k cells h; simp [replAt]
  | cons v vs ih =>
    intro off k cells h
    simp only [List.length_cons] at h
    rw [List.zipIdx_cons, List.foldl_cons, ih off (k + 1) _ (by simp; omega)]
    rw [Array.toList_setIfInBounds]
    apply List.ext_getElem?
    intro j
    have hsz : cells.toList.length = cells.size := Array.length_toList
    by_cases h1 : j < off + k
    · rw [repl_get_out (by simp; omega) (.inl (by omega)), repl_get_out (by simp; omega) (.inl h1), List.getElem?_set, if_neg (by omega)]
    · by_cases h2 : j = off + k
      · subst h2
        rw [repl_get_out (by simp; omega) (.inl (by omega)), repl_get_in (by simp; omega) (Nat.le_refl _) (by simp), List.getElem?_set, if_pos rfl, if_pos (by omega)]
        simp
      · by_cases h3 : j < off + k + (vs.length + 1)
        · rw [repl_get_in (by simp; omega) (by omega) (by omega), repl_get_in (by simp; omega) (by omega) (by simp; omega)]
          have : j - (off + k) = (j - (off + (k + 1))) + 1 := by omega
          rw [this, List.getElem?_cons_succ]
        · rw [repl_get_out (by simp; omega) (.inr (by omega)), repl_get_out (by simp; omega) (.inr (by simp; omega)), List.getElem?_set, if_neg (by omega)]
theorem replAt_len {α : Type} {cs us : List α} {p : Nat} (h : p + us.length ≤ cs.length) : (replAt cs p us).length = cs.length := by
  simp only [replAt, List.length_append, List.length_take, List.length_drop]; omega
theorem fill_cons {place : Nat → Option (Nat × Nat)} {cells : Array Value} {i : Nat} {v : Value} {rest : List (Nat × Value)} {off size : Nat} (hp : place i = some (off, size)) (hs : v.cells.size = size) (ho : off + size ≤ cells.size) :
    Instr.fill place cells ((i, v) :: rest) = Instr.fill place (replAt cells.toList off v.cells.toList).toArray rest := by
  conv => lhs; unfold Instr.fill
  rw [hp]
  simp only
  rw [if_neg (by simp; omega)]
  congr 1
  apply Array.toList_inj.1
  have := fold_set v.cells.toList off 0 cells (by simp; omega)
  simp only [Nat.add_zero] at this
  rw [← this]
  rw [← Array.foldl_toList]
  congr 1
  simp [Array.toList_zipIdx]

theorem build_ok (h : Sat F σ a w g) {g1 : Gm} (hle : g.le g1) {fs : List (Nat × Nat)} {place : Nat → Option (Nat × Nat)} (hpl : ∀ (i : Nat) p, fs[i]? = some p → place i = some p) : ∀ (ps : List (Nat × Operand)) (cells : List Value) (cs cs' : List Cell) (G : Loc → Ct), G = get σ → All2 (CellRep g1 F.base w) cells cs → (fillR fs ps cs).run G = some cs' →
    ∃ cells', Instr.fill place cells.toArray (ps.map fun p => (p.1, a.eval p.2)) = some cells' ∧ All2 (CellRep g1 F.base w) cells'.toList cs'
  | [], cells, cs, cs', G, _, hc, hr => by
    obtain rfl := run_ret hr
    exact ⟨cells.toArray, rfl, hc⟩
  | (i, x) :: ps, cells, cs, cs', G, hG, hc, hr => by
    subst hG
    unfold fillR at hr
    split at hr
    · cases hr
    · rename_i off sz hf
      obtain ⟨v, hv, hr⟩ := run_bind_some hr
      obtain ⟨us, hus, hr⟩ := run_bind_some hr
      obtain ⟨ht, hr⟩ := run_test hr
      simp only [Bool.and_eq_true] at ht
      have hl := Nat.eq_of_beq_eq_true ht.1
      have hfit := fitR_ok ht.2
      have hu := (cellsOf_ok h (opv_ok h hv) hus).1.imp fun _ _ h' => CellRep.le h' hle
      have hul := hu.length
      have hcl := hc.length
      simp only [Array.length_toList] at hul
      obtain ⟨cells', e1, e2⟩ := build_ok h hle hpl ps (replAt cells off (a.eval x).cells.toList) (replAt cs off us) cs' _ rfl (hc.repl hu off) hr
      refine ⟨cells', ?_, e2⟩
      have hsz : (a.eval x).cells.size = sz := hul.trans hl
      have hle : off + sz ≤ cells.toArray.size := by simp; omega
      rw [List.map_cons, fill_cons (hpl i _ hf) hsz hle]
      exact e1
theorem run_places : ∀ (fields : List Field) (fs : List (Nat × Nat)), All2 (fun (f : Field) p => f.offset = p.1 ∧ ∃ i, P.info? f.type = some i ∧ i.size = p.2) fields fs →
    ((fields.mapM fun f => do pure (f.offset, ← Go.sizeOf f.type) : Sem (List (Nat × Nat)))).run P w = .ok fs w
  | [], _, .nil => rfl
  | f :: fields, _, .cons (b := p) (bs := fs) ⟨h1, i, h2, h3⟩ t' => by
    have ih := run_places fields fs t'
    have hf : ((do pure (f.offset, ← Go.sizeOf f.type) : Sem (Nat × Nat))).run P w = .ok p w := by
      simp [Go.sizeOf, typeInfo, h2, h3, h1]
    rw [List.mapM_cons, Sem.run_bind, hf, Result.andThen_ok, Sem.run_bind, ih]
    rfl

/-! rows -/
theorem seg_row {n size : Nat} : ∀ (ps : List (Nat × Value)) (k : Nat) (cells : List Value), (∀ (j : Nat) p, ps[j]? = some p → p.1 = k + j ∧ p.2.cells.size = size) → k + ps.length ≤ n → cells.length = n * size →
    ∃ cells', Instr.fill (fun i => some (i * size, size)) cells.toArray ps = some cells' ∧ cells'.toList = cells.take (k * size) ++ ps.flatMap (fun p => p.2.cells.toList) ++ cells.drop ((k + ps.length) * size)
  | [], k, cells, _, _, _ => ⟨cells.toArray, rfl, by simp⟩
  | (i, v) :: ps, k, cells, hp, hk, hl => by
    obtain ⟨h1, h2⟩ := hp 0 _ rfl
    simp only [List.length_cons] at hk
    have hi : i = k := by simpa using h1
    subst hi
    have hle : i * size + size ≤ n * size := by rw [← Nat.succ_mul]; exact Nat.mul_le_mul_right _ (by omega)
    have h2' : v.cells.toList.length = size := by simpa using h2
    obtain ⟨cells', e1, e2⟩ := seg_row (n := n) (size := size) ps (i + 1) (replAt cells (i * size) v.cells.toList) (fun j p hj => by
      have := hp (j + 1) p (by simpa using hj)
      exact ⟨by rw [this.1]; omega, this.2⟩) (by omega) (by rw [replAt_len (by omega)]; exact hl)
    refine ⟨cells', by rw [fill_cons rfl h2 (by simp; omega)]; exact e1, ?_⟩
    rw [e2]
    have hs1 : (i + 1) * size = i * size + size := Nat.succ_mul _ _
    have hs2 : (i + 1 + ps.length) * size = (i + (ps.length + 1)) * size := by congr 1; omega
    unfold replAt
    simp only [List.flatMap_cons, List.length_cons]
    rw [hs1, hs2]
    have hlen : (cells.take (i * size) ++ v.cells.toList).length = i * size + size := by
      rw [List.length_append, List.length_take, h2', Nat.min_eq_left (by omega)]
    have hge : i * size + size ≤ (i + (ps.length + 1)) * size := by rw [← hs1]; exact Nat.mul_le_mul_right _ (by omega)
    have e3 : (cells.take (i * size) ++ v.cells.toList ++ cells.drop (i * size + v.cells.toList.length)).take (i * size + size) = cells.take (i * size) ++ v.cells.toList := by
      exact List.take_left' hlen
    have e4 : (cells.take (i * size) ++ v.cells.toList ++ cells.drop (i * size + v.cells.toList.length)).drop ((i + (ps.length + 1)) * size) = cells.drop ((i + (ps.length + 1)) * size) := by
      rw [List.drop_append, List.drop_of_length_le (by rw [hlen]; exact hge), List.nil_append, List.drop_drop, hlen, h2']
      congr 1
      omega
    rw [e3, e4]
    simp
theorem kind_flat_nil {k : RK} {d : Row} (h : d.kind = k) : d.wd = kwd k := by rw [← h, kwd_wd]
/-- A row that is made: its cells. -/
theorem OwnRep.made {Pj : Nat → Prop} {e : TypeId} {d : Row} {cells : List Value} (w : World) (hall : All2 (DRep w Pj) cells d.flat) (hm : d.len ≤ 1099511627776) :
    OwnRep (w.alloc (.cells cells.toArray e)) Pj e (.slice (some ⟨w.heap.size, 0, none⟩) d.len d.len) d := by
  have hl := hall.length
  rw [flat_len] at hl
  refine ⟨cells, ⟨hl, .inr ⟨w.heap.size, d.len, cells.toArray, rfl, Nat.zero_le _, heap_alloc_new w _, Nat.le_refl _, ?_, by simpa using hl, ?_⟩⟩, fun j c hj => ?_⟩
  · simp only [maxLen]; omega
  · simp only [← hl, List.take_length]
  · obtain ⟨x, hx1, hx2⟩ := hall.get j c hj
    exact ⟨x, hx1, hx2.chg (Chg.alloc (fun _ => False) w _) (fun _ _ h => h) fun _ h => h⟩
/-- A new row of one's own in the world. -/
theorem Sat.allocRow (h : Sat F σ a w g) {id : Nat} (hid : get σ (.r id) = .no) {fr : Bool} {d : Row} {e : TypeId} (he : ekOf F.ek d.kind = some e) {cells : List Value} (hall : All2 (DRep w (PG g F.base fr)) cells d.flat) (hm : d.len ≤ 1099511627776) :
    Sat F ((.r id, .row true fr d) :: σ) a (w.alloc (.cells cells.toArray e)) (g.setR id (.slice (some ⟨w.heap.size, 0, none⟩) d.len d.len) d) ∧ g.le (g.setR id (.slice (some ⟨w.heap.size, 0, none⟩) d.len d.len) d) := by
  have hnd : ¬ g.dr id := fun hd => (h.dr id hd).1 hid
  have hc := Chg.alloc (fun _ => False) w (.cells cells.toArray e)
  have hp := h.fresh (Nat.le_refl w.heap.size)
  have h' := h.world hc fun _ _ hx => hx.elim
  refine ⟨h'.newRow hid he (OwnRep.made w hall hm) fun b hb => ?_, g.setR_le hnd _ _⟩
  have hb' : b = w.heap.size := by
    simp only [Value.ownBlock, Option.some.injEq] at hb
    exact hb.symm
  subst hb'
  refine ⟨hp, fun _ => ?_⟩
  have := h.base; have := h.chg.size; omega
theorem getElem?_madeCells (z : Array Value) (n j : Nat) : (madeCells z n).toList[j]? = if j < n then some (z[j % z.size]!) else none := by
  by_cases h : j < n <;> simp [madeCells, h]
theorem flat_repl (k : RK) (n : Nat) (z : Array Value) (hz : z.toList = kzero k) (w : World) (Pj : Nat → Prop) : All2 (DRep w Pj) (madeCells z (n * kwd k)).toList (replR k n).flat := by
  have hzs : z.size = kwd k := by rw [← Array.length_toList, hz]; cases k <;> rfl
  apply All2.of_get
  · rw [flat_len]; simp only [Array.length_toList, size_madeCells]; cases k <;> simp [replR, Row.len, Row.wd, kwd]
  · intro j x c hx hc
    rw [getElem?_madeCells] at hx
    split at hx
    · cases hx
      rename_i hj
      have hz0 : ∀ i (hi : i < z.size), z[i]! = (kzero k)[i]'(by rw [← hz]; simpa using hi) := fun i hi => by
        rw [getElem!_pos z i hi]
        simp only [← hz]
        simp
      cases k with
      | ints k =>
        have hz1 : z.size = 1 := hzs
        simp only [replR, Row.flat, List.map_replicate] at hc
        have := List.eq_of_mem_replicate (List.mem_of_getElem? hc)
        subst this
        rw [hz1, Nat.mod_one, hz0 0 (by omega)]
        rfl
      | strs =>
        have hz1 : z.size = 1 := hzs
        simp only [replR, Row.flat, List.map_replicate] at hc
        have := List.eq_of_mem_replicate (List.mem_of_getElem? hc)
        subst this
        rw [hz1, Nat.mod_one, hz0 0 (by omega)]
        rfl
      | eqs =>
        have hz2 : z.size = 2 := hzs
        simp only [kwd] at hj
        have hlt : j / 2 < n := by omega
        have hfc := flat_cells (replR .eqs n) (e := j / 2) (by simp [replR, Row.len]; exact hlt) (j % 2) (Nat.mod_lt _ (by decide))
        have hjj : j / 2 * 2 + j % 2 = j := by omega
        have hwd : (replR .eqs n).wd = 2 := rfl
        rw [hwd, hjj, hc] at hfc
        rw [hz2, hz0 (j % 2) (by omega)]
        have h01 : j % 2 = 0 ∨ j % 2 = 1 := by omega
        have hget : (List.replicate n eqD).getD (j / 2) eqD = eqD := by
          rw [List.getD_eq_getElem?_getD, List.getElem?_replicate, if_pos hlt]; rfl
        rcases h01 with h01 | h01
        · simp only [h01] at hfc ⊢
          simp only [replR, Row.cells, hget, List.getElem?_cons_zero, Option.some.injEq] at hfc
          subst hfc
          exact ⟨none, 0, rfl, Nat.le_refl _, fun hl => absurd hl (by simp [eqD])⟩
        · simp only [h01] at hfc ⊢
          simp only [replR, Row.cells, hget, List.getElem?_cons_succ, List.getElem?_cons_zero, Option.some.injEq] at hfc
          subst hfc
          rfl
    · cases hx
end
end Vx
