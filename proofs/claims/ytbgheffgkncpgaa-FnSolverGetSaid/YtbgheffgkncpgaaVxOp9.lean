/- The operations: literals of slices, make, append. Conditions: those that each theorem states. -/
import Derived.Test.YtbgheffgkncpgaaVxOp8
set_option linter.unusedVariables false
set_option linter.unusedSimpArgs false
namespace Vx
open Go Go.RowKit

section
variable {P : Program} {cx : Cx} {F : Fr} {σ : St} {a : Act} {w : World} {g : Gm}
theorem eltsI_ok (h : Sat F σ a w g) {k : IntKind} : ∀ (l : List Operand) (xs : List Int), (eltsI k l).run (get σ) = some xs → l.map a.eval = xs.map (.int k)
  | [], xs, hr => by
    obtain rfl := run_ret hr
    rfl
  | x :: l, xs, hr => by
    obtain ⟨v, hv, hr⟩ := run_bind_some hr
    have hv' := scal_ok h hv
    split at hr
    · obtain ⟨hk, hr2⟩ := run_test hr
      obtain rfl := IntKind.eqb_iff.1 hk
      obtain ⟨ys, hys, hr3⟩ := run_bind_some hr2
      obtain rfl := run_ret hr3
      simp [hv', eltsI_ok h l ys hys]
    · cases hr
theorem eltsS_ok (h : Sat F σ a w g) : ∀ (l : List Operand) (xs : List ByteArray), (eltsS l).run (get σ) = some xs → l.map a.eval = xs.map .string
  | [], xs, hr => by
    obtain rfl := run_ret hr
    rfl
  | x :: l, xs, hr => by
    obtain ⟨v, hv, hr⟩ := run_bind_some hr
    have hv' := scal_ok h hv
    split at hr
    · obtain ⟨ys, hys, hr⟩ := run_bind_some hr
      obtain rfl := run_ret hr
      simp [hv', eltsS_ok h l ys hys]
    · cases hr
theorem cells_ints (Pj : Nat → Prop) (k : IntKind) (xs : List Int) : All2 (DRep w Pj) ((xs.map (Value.int k)).flatMap fun v => v.cells.toList) (Row.ints k xs).flat := by
  induction xs with
  | nil => exact .nil
  | cons x xs ih => exact .cons rfl ih
theorem cells_strs (Pj : Nat → Prop) (xs : List ByteArray) : All2 (DRep w Pj) ((xs.map Value.string).flatMap fun v => v.cells.toList) (Row.strs xs).flat := by
  induction xs with
  | nil => exact .nil
  | cons x xs ih => exact .cons rfl ih
/-- The elements of a literal: their cells. -/
theorem eltsR_ok (h : Sat F σ a w g) {k : RK} {l : List Operand} {d : Row} {fr : Bool} {fz : List (Loc × Ct)} (hr : (eltsR k l).run (get σ) = some (d, fr, fz)) :
    ∃ g', Sat F (push fz σ) a w g' ∧ g.le g' ∧ d.kind = k ∧ d.len = l.length ∧ (∀ x ∈ l, (a.eval x).cells.size = kwd k) ∧ All2 (DRep w (PG g' F.base fr)) ((l.map a.eval).flatMap fun v => v.cells.toList) d.flat ∧ (∀ p ∈ fz, ∃ i fr d, p = (.r i, .row false fr d) ∧ ∃ o, get σ (.r i) = .row o fr d) := by
  cases k with
  | ints k =>
    obtain ⟨xs, hxs, hr⟩ := run_bind_some hr
    have := run_ret hr; cases this
    have e := eltsI_ok h l xs hxs
    have hl : l.length = xs.length := by simpa using congrArg List.length e
    refine ⟨g, h, g.le_refl, rfl, hl.symm, fun x hx => ?_, ?_, fun p hp => (by cases hp)⟩
    · have hm : a.eval x ∈ l.map a.eval := List.mem_map_of_mem hx
      rw [e] at hm
      obtain ⟨n, _, hn⟩ := List.mem_map.1 hm
      rw [← hn]; rfl
    · rw [e]
      exact cells_ints _ k xs
  | strs =>
    obtain ⟨xs, hxs, hr⟩ := run_bind_some hr
    have := run_ret hr; cases this
    have e := eltsS_ok h l xs hxs
    have hl : l.length = xs.length := by simpa using congrArg List.length e
    refine ⟨g, h, g.le_refl, rfl, hl.symm, fun x hx => ?_, ?_, fun p hp => (by cases hp)⟩
    · have hm : a.eval x ∈ l.map a.eval := List.mem_map_of_mem hx
      rw [e] at hm
      obtain ⟨n, _, hn⟩ := List.mem_map.1 hm
      rw [← hn]; rfl
    · rw [e]
      exact cells_strs _ xs
  | eqs =>
    obtain ⟨⟨q1, q2, q3⟩, hq, hr⟩ := run_bind_some hr
    have := run_ret hr; cases this
    unfold eltsE at hq
    split at hq
    · have := run_ret hq; cases this
      exact ⟨g, h, g.le_refl, rfl, rfl, fun x hx => (by cases hx), .nil, fun p hp => (by cases hp)⟩
    · rename_i x
      obtain ⟨v, hv, hq⟩ := run_bind_some hq
      have hv' := opv_ok h hv
      split at hq
      · rename_i c s
        obtain ⟨⟨p1, p2, p3⟩, hp, hq⟩ := run_bind_some hq
        have := run_ret hq; cases this
        obtain ⟨us, hu, hall⟩ := hv'
        cases hall with
        | cons h1 t1 => cases t1 with
          | cons h2 t2 =>
            cases t2
            rename_i u0 u1
            obtain rfl := (h2 : u1 = _)
            obtain ⟨g', hs, hle, hrv, hdr, hmem⟩ := innerR_ok h h1 hp
            refine ⟨g', hs, hle, rfl, rfl, fun y hy => ?_, ?_, fun p hp => ?_⟩
            · simp only [List.mem_singleton] at hy
              subst hy
              rw [hu]; rfl
            · simp only [List.map_cons, List.map_nil, List.flatMap_cons, List.flatMap_nil, List.append_nil, hu]
              exact .cons hdr (.cons rfl .nil)
            · obtain ⟨i, fr, d, e1, e2, _⟩ := hmem p hp
              exact ⟨i, fr, d, e1, e2⟩
      · cases hq
    · cases hq
theorem idx_ok : ∀ (ps : List (Nat × Operand)) (n : Nat), idxOk n ps = true → ∀ (j : Nat) p, ps[j]? = some p → p.1 = n + j
  | [], n, _, j, p, hj => by simp at hj
  | (i, x) :: ps, n, h, j, p, hj => by
    simp only [idxOk, Bool.and_eq_true] at h
    cases j with
    | zero => simp at hj; subst hj; exact Nat.eq_of_beq_eq_true h.1
    | succ j =>
      have := idx_ok ps (n + 1) h.2 j p (by simpa using hj)
      omega
theorem frozen_get {fz : List (Loc × Ct)} (hf : ∀ p ∈ fz, ∃ i fr d, p = (.r i, .row false fr d) ∧ ∃ o, get σ (.r i) = .row o fr d) {l : Loc} (h : get σ l = .no) : get (push fz σ) l = .no := by
  rcases get_push_frozen hf l with h' | ⟨i, fr, d, rfl, _, o, ho⟩
  · rw [h', h]
  · rw [h] at ho; cases ho
theorem buildSlice_ok (htab : TabOk P cx) (hF : F.ek = cx.ek) (h : Sat F σ a w g) {t e : TypeId} (hu : P.underlying t = some (.slice e)) {k : RK} (hk : alook cx.ek e = some k) {n : Nat} {ps : Array (Nat × Operand)} (hn : ps.toList.length = n) (hx : idxOk 0 ps.toList = true) (hsm : n ≤ 4000000)
    {d : Row} {fr : Bool} {fz : List (Loc × Ct)} (hr : (eltsR k (ps.toList.map (·.2))).run (get σ) = some (d, fr, fz)) {id : Nat} (hid : get σ (.r id) = .no) :
    ∃ v w' g', (Instr.buildSlice t n (ps.map fun (i, x) => (i, a.eval x))).run P w = .ok v w' ∧ Sat F (push (fz ++ [(.r id, .row true fr d)]) σ) a w' g' ∧ AVRep g' F.base w' v (.v (.cell (.ref id))) := by
  obtain ⟨g1, hs, hle, hdk, hdl, hsz, hall, hfz⟩ := eltsR_ok h hr
  obtain ⟨⟨⟨i, z, hi, his, hib, hib2, hiz, hzc⟩⟩, hek⟩ := htab.ek e k hk
  have hzs : z.cells.size = kwd k := by rw [← Array.length_toList, hzc]; cases k <;> rfl
  have hseg := seg_row (n := n) (size := kwd k) ((ps.toList.map fun p => (p.1, a.eval p.2))) 0 ((Array.range (n * kwd k)).map (z.cells[· % z.cells.size]!)).toList (fun j p hj => by
    simp only [List.getElem?_map, Option.map_eq_some_iff] at hj
    obtain ⟨q, hq, rfl⟩ := hj
    refine ⟨idx_ok _ 0 hx j q hq, hsz q.2 ?_⟩
    exact List.mem_map_of_mem (List.mem_of_getElem? hq)) (by simp [hn]) (by simp)
  obtain ⟨cells', e1, e2⟩ := hseg
  have hc' : cells'.toList = ((ps.toList.map (·.2)).map a.eval).flatMap fun v => v.cells.toList := by
    rw [e2]
    simp only [Nat.zero_mul, List.take_zero, List.nil_append, Nat.zero_add, List.length_map, hn]
    rw [List.drop_of_length_le (by simp)]
    simp only [List.append_nil, List.flatMap_map]
  have hlen : d.len = n := by rw [hdl, List.length_map, hn]
  have hid' : get (push fz σ) (.r id) = .no := frozen_get hfz hid
  obtain ⟨hs2, hle2⟩ := hs.allocRow hid' (e := e) (by rw [hF, hdk]; exact hek) (cells := cells'.toList) (by rw [hc']; exact hall) (by omega)
  refine ⟨.slice (some ⟨w.heap.size, 0, none⟩) n n, w.alloc (.cells cells' e), g1.setR id (.slice (some ⟨w.heap.size, 0, none⟩) d.len d.len) d, ?_, ?_, ?_⟩
  · have hpl : (ps.map fun (x : Nat × Operand) => (x.1, a.eval x.2)).toList = ps.toList.map fun p => (p.1, a.eval p.2) := by simp
    have hw1 : kwd k ≤ 2 := by cases k <;> simp [kwd]
    have hnk : n * kwd k ≤ n * 2 := Nat.mul_le_mul_left _ hw1
    have hsm' : ¬ n * kwd k > 2 ^ 24 := by
      have : (2 : Nat) ^ 24 = 16777216 := by decide
      omega
    by_cases h0 : n * kwd k = 0
    · have hn0 : n = 0 := by
        rcases Nat.mul_eq_zero.1 h0 with h0 | h0
        · exact h0
        · cases k <;> simp [kwd] at h0
      subst hn0
      have hp0 : ps = #[] := by apply Array.toList_inj.1; simpa using List.length_eq_zero_iff.1 hn
      subst hp0
      have hce : cells' = #[] := by apply Array.toList_inj.1; rw [hc']; rfl
      subst hce
      simp [Instr.buildSlice, run_underlying hu, Go.sizeOf, typeInfo, hi, his, Instr.fill, newRow, Array.range_zero']
    · have e1' : Instr.fill (fun i => some (i * kwd k, kwd k)) ((Array.range (n * kwd k)).map (z.cells[· % z.cells.size]!)) (ps.map fun (x : Nat × Operand) => (x.1, a.eval x.2)).toList = some cells' := by
        rw [hpl]
        rw [Array.toArray_toList] at e1
        exact e1
      simp only [Instr.buildSlice, Sem.run_bind, run_underlying hu, Result.andThen_ok, Go.sizeOf, typeInfo, run_program, hi, Sem.run_pure, his, if_neg hsm', h0, if_false, zeroValue, hiz, e1', newRow, run_newObj]
      rfl
  · rw [push_append]
    have : (cells'.toList).toArray = cells' := by simp
    rw [this] at hs2
    exact hs2
  · exact ⟨.inr rfl, by rw [← hlen]; exact (if_pos rfl).symm⟩
theorem makeSlice_ok (htab : TabOk P cx) (hF : F.ek = cx.ek) (h : Sat F σ a w g) {t e : TypeId} (hu : P.underlying t = some (.slice e)) {k : RK} (hk : alook cx.ek e = some k) {n : Int} (h0 : 0 ≤ n) (hn : n < (two40 : Int)) {id : Nat} (hid : get σ (.r id) = .no) :
    ∃ v w' g', (Instr.makeSlice t (.int .i64 n) (.int .i64 n)).run P w = .ok v w' ∧ Sat F ((.r id, .row true true (replR k n.toNat)) :: σ) a w' g' ∧ AVRep g' F.base w' v (.v (.cell (.ref id))) := by
  obtain ⟨⟨⟨i, z, hi, his, hib, hib2, hiz, hzc⟩⟩, hek⟩ := htab.ek e k hk
  simp only [two40] at hn
  have hb : (i.bytes : Int) * n ≤ 281474976710656 := by
    have : (i.bytes : Int) * n ≤ 64 * n := Int.mul_le_mul_of_nonneg_right (by omega) h0
    omega
  have hrun := run_make (P := P) w t e i z hu hi hiz .i64 .i64 n n h0 (Int.le_refl _) hb (by omega)
  rw [his] at hrun
  have hlen : (replR k n.toNat).len = n.toNat := by cases k <;> simp [replR, Row.len]
  obtain ⟨hs2, hle2⟩ := h.allocRow hid (fr := true) (d := replR k n.toNat) (e := e) (by rw [hF]; cases k <;> exact hek) (cells := (madeCells z.cells (n.toNat * kwd k)).toList) (flat_repl k n.toNat z.cells hzc w _) (by rw [hlen]; omega)
  refine ⟨_, _, g.setR id (.slice (some ⟨w.heap.size, 0, none⟩) (replR k n.toNat).len (replR k n.toNat).len) (replR k n.toNat), hrun, ?_, ?_⟩
  · simpa using hs2
  · exact ⟨.inr rfl, by rw [hlen]; exact (if_pos rfl).symm⟩
theorem app_flat {d1 d2 d : Row} (h : d1.app d2 = some d) : d.flat = d1.flat ++ d2.flat ∧ d.len = d1.len + d2.len ∧ d.kind = d1.kind ∧ d.wd = d1.wd ∧ d2.wd = d1.wd := by
  cases d1 <;> cases d2 <;> simp only [Row.app] at h
  all_goals first
    | (split at h
       · rename_i hk
         obtain rfl := IntKind.eqb_iff.1 hk
         cases h
         exact ⟨by simp [Row.flat], by simp [Row.len], rfl, rfl, rfl⟩
       · cases h)
    | (cases h; exact ⟨by simp [Row.flat], by simp [Row.len], rfl, rfl, rfl⟩)
    | cases h
theorem flat_one {w : World} {Pj : Nat → Prop} {d : Row} {j : Nat} {c : DC} {x : Value} (hc : d.flat[j]? = some c) (hx : DRep w Pj x c) : x.oneCell' = true := by
  cases c with
  | ir xs => obtain ⟨A, cap, rfl, _⟩ := hx; rfl
  | sc v =>
    obtain rfl := (hx : x = v)
    have hm := List.mem_of_getElem? hc
    cases d with
    | ints k xs => simp [Row.flat] at hm; obtain ⟨n, _, rfl⟩ := hm; rfl
    | strs xs => simp [Row.flat] at hm; obtain ⟨n, _, rfl⟩ := hm; rfl
    | eqs xs => simp [Row.flat] at hm; obtain ⟨_, n, _, rfl⟩ := hm; rfl
theorem appFr_l (d : Row) {a b : Bool} {j : Nat} (h : PG g F.base a j) : PG g F.base (appFr d a b) j := by
  cases d with
  | eqs _ => exact h.and_l
  | ints _ _ => exact h
  | strs _ => exact h
theorem appFr_t {d : Row} {a b : Bool} (h : appFr d a b = true) : a = true := by
  cases d with
  | eqs _ => simp [appFr] at h; exact h.1
  | ints _ _ => exact h
  | strs _ => exact h
theorem appFr_r {w' : World} {X : Nat → Prop} (hch : Chg X w w') {d d2 d' : Row} (happ : d.app d2 = some d') {a b : Bool} (hx : ∀ j, PG g F.base b j → ¬ X j) {j : Nat} {c : DC} (hc : d2.flat[j]? = some c) {x : Value} (h : DRep w (PG g F.base b) x c) : DRep w' (PG g F.base (appFr d a b)) x c := by
  cases c with
  | sc v => exact h
  | ir xs =>
    have hm := List.mem_of_getElem? hc
    cases d2 with
    | ints k xs => simp [Row.flat] at hm
    | strs xs => simp [Row.flat] at hm
    | eqs ys =>
      cases d with
      | ints k xs => cases happ
      | strs xs => cases happ
      | eqs zs => exact DRep.chg hch hx (fun j hj => hj.and_r) h
theorem append_ok (htab : TabOk P cx) (hF : F.ek = cx.ek) (h : Sat F σ a w g) {t ty e : TypeId} (hu : P.underlying t = some (.slice e)) {k : RK} (hk : alook cx.ek e = some k) {i : Nat} {fr : Bool} {d : Row} (hi : get σ (.r i) = .row true fr d) (hdk : d.kind = k) (hdr : g.dr i)
    {d2 d' : Row} {fr2 : Bool} {u : Value} (hl2 : RowLook w (PG g F.base fr2) u d2) (happ : d.app d2 = some d') (hn : d.len + d2.len < two40) {id : Nat} (hid : get σ (.r id) = .no) :
    ∃ v w' g', (Builtin.append_ #[t, t] ty #[g.rv i, u]).run P w = .ok v w' ∧ Sat F (push [(.r i, .dead), (.r id, .row true (appFr d fr fr2) d')] σ) a w' g' ∧ AVRep g' F.base w' v (.v (.cell (.ref id))) := by
  obtain ⟨⟨⟨inf, z, hinf, his, hib, hib2, hiz, hzc⟩⟩, hek⟩ := htab.ek e k hk
  obtain ⟨hr1, ⟨hwd, hln⟩, ⟨e', he', cs, ho, hc⟩, hb⟩ := h.row i _ _ _ hi
  have hee : e' = e := by rw [hdk, hF] at he'; exact Option.some.inj (he'.symm.trans hek)
  subst hee
  have hzs : z.cells.size = kwd k := by rw [← Array.length_toList, hzc]; cases k <;> rfl
  have hwk : d.wd = kwd k := kind_flat_nil hdk
  obtain ⟨hf1, hf2, hf3, hf4, hf5⟩ := app_flat happ
  obtain ⟨A, cap, rfl, hcap, hcells⟩ := hl2
  simp only [two40] at hn
  have hpos : 0 < kwd k := by cases k <;> simp [kwd]
  obtain ⟨hk1, hk2⟩ := h.kill hi
  have hne : Loc.r id ≠ Loc.r i := fun e => by rw [e, hi] at hid; cases hid
  have hid' : get ((Loc.r i, Ct.dead) :: σ) (.r id) = .no := by rw [get_other hne]; exact hid
  have hnd : ¬ g.dr id := fun hd => (h.dr id hd).1 hid
  -- the cells that are put behind
  have fin : ∀ (v : Value) (w' : World) (news : List Value), (Builtin.append_ #[t, t] ty #[g.rv i, .slice A d2.len cap]).run P w = .ok v w' → w'.ownsRow 0 e' (kwd k) v (d.len + d2.len) (cs ++ news) → Chg (fun j => (g.rv i).ownBlock = some j) w w' → (∀ b, v.ownBlock = some b → (g.rv i).ownBlock = some b ∨ w.heap.size ≤ b) →
      All2 (DRep w (PG g F.base fr2)) news d2.flat →
      ∃ v w' g', (Builtin.append_ #[t, t] ty #[g.rv i, .slice A d2.len cap]).run P w = .ok v w' ∧ Sat F (push [(.r i, .dead), (.r id, .row true (appFr d fr fr2) d')] σ) a w' g' ∧ AVRep g' F.base w' v (.v (.cell (.ref id))) := fun v w' news hrun hown hch hvb hnews => by
    have hs := hk1.world hch fun j hj hx => hk2 j hx
    have hng : ∀ x, ∀ j, PG g F.base x j → ¬ (g.rv i).ownBlock = some j := fun x j hj e => (hb j e).1 hj.1
    have hown' : OwnRep w' (PG g F.base (appFr d fr fr2)) e' v d' := by
      refine ⟨cs ++ news, by rw [hf4, hf2, hwk]; exact hown, fun j c hj => ?_⟩
      rw [hf1] at hj
      have hcl : cs.length = d.flat.length := by rw [ho.1, flat_len]
      by_cases hlt : j < d.flat.length
      · rw [List.getElem?_append_left hlt] at hj
        obtain ⟨x, hx1, hx2⟩ := hc j c hj
        exact ⟨x, by rw [List.getElem?_append_left (by omega)]; exact hx1, hx2.chg hch (hng _) fun _ hp => appFr_l d hp⟩
      · rw [List.getElem?_append_right (by omega)] at hj
        obtain ⟨x, hx1, hx2⟩ := hnews.get _ c hj
        exact ⟨x, by rw [List.getElem?_append_right (by omega), hcl]; exact hx1, appFr_r hch happ (hng _) hj hx2⟩
    refine ⟨v, w', _, hrun, hs.newRow hid' (by rw [hf3, hdk, hF]; exact hek) hown' fun b hvb' => ?_, .inr rfl, (if_pos rfl).symm⟩
    rcases hvb b hvb' with hob | hge
    · exact ⟨hk2 b hob, fun hfr => (hb b hob).2.2 (appFr_t hfr)⟩
    · refine ⟨hk1.fresh hge, fun _ => ?_⟩
      have := h.base; have := h.chg.size; omega
  cases A with
  | none =>
    have hz : d2.len = 0 := by
      rcases Nat.eq_zero_or_pos d2.len with h0 | h0
      · exact h0
      · obtain ⟨ad, ha, _⟩ := hcells h0; cases ha
    have hd2 : d2.flat = [] := List.eq_nil_of_length_eq_zero (by rw [flat_len, hz, Nat.zero_mul])
    have hrun : (Builtin.append_ #[t, t] ty #[g.rv i, .slice none d2.len cap]).run P w = .ok (g.rv i) w := by
      rw [hz]
      rcases ho.2 with ⟨e0, hl0⟩ | ⟨b, cap', cur, e0, _, _, hle, _⟩
      · rw [e0]
        simp [Builtin.append_, run_underlying hu, Go.sizeOf, typeInfo, hinf, Builtin.lenOf, Builtin.firstCells]
      · rw [e0]
        simp [Builtin.append_, run_underlying hu, Go.sizeOf, typeInfo, hinf, Builtin.lenOf, Builtin.firstCells, hle, storeCells]
    refine fin _ _ [] hrun ?_ (Chg.refl _ w) (fun b hb => .inl hb) (by rw [hd2]; exact .nil)
    rw [hz, Nat.add_zero, List.append_nil, ← hwk]
    exact ho
  | some ad =>
    obtain ⟨news, hnl, hnews⟩ := list_of_cells (n := d2.len * kwd k) (p := fun j x => w.cell? (ad.add j) = some x ∧ ∀ c, d2.flat[j]? = some c → DRep w (PG g F.base fr2) x c) fun j hj => by
      have h0 : 0 < d2.len := by
        rcases Nat.eq_zero_or_pos d2.len with h0 | h0
        · rw [h0, Nat.zero_mul] at hj; omega
        · exact h0
      obtain ⟨ad', ha, hcc⟩ := hcells h0
      injection ha with ha
      subst ha
      have hlt : j < d2.flat.length := by rw [flat_len, hf5, hwk]; exact hj
      obtain ⟨x, hx1, hx2⟩ := hcc j _ (List.getElem?_eq_getElem hlt)
      exact ⟨x, hx1, fun c hc => by rw [List.getElem?_eq_getElem hlt] at hc; cases hc; exact hx2⟩
    have hfl2 : d2.flat.length = d2.len * kwd k := by rw [flat_len, hf5, hwk]
    have hb64 : (d.len + d2.len) * inf.bytes ≤ (d.len + d2.len) * 64 := Nat.mul_le_mul_left _ hib2
    obtain ⟨v, w', hrun, hown, hgr, _, hvb⟩ := run_append_own_at (P := P) w 0 t ty e' inf z (kwd k) inf.bytes hu hinf hiz his rfl hzs hpos (g.rv i) d.len cs (by rw [← hwk]; exact ho) ad d2.len cap news hnl (fun j u hj => (hnews j u hj).1) (fun u hu => by
        obtain ⟨j, hj, hju⟩ := List.getElem_of_mem hu
        have hj' : news[j]? = some u := by rw [List.getElem?_eq_getElem hj, hju]
        have hlt : j < d2.flat.length := by rw [hfl2]; omega
        exact flat_one (List.getElem?_eq_getElem hlt) ((hnews j u hj').2 _ (List.getElem?_eq_getElem hlt))) (by simp only [maxLen]; omega) (by omega) (Nat.zero_le _)
    refine fin v w' news hrun hown (Chg.grown hgr) (fun b hbv => ?_) (All2.of_get (by rw [hnl, hfl2]) fun j x c hx hc => (hnews j x hx).2 c hc)
    rcases hvb with hvb | hvb
    · exact .inl (by rw [← hvb]; exact hbv)
    · rw [hvb] at hbv
      injection hbv with hbv
      exact .inr (by omega)
end
end Vx
