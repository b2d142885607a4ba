/- The operations that only compute and read. Conditions: those that each theorem states. -/
import Derived.Test.YtbgheffgkncpgaaVxOp2
set_option linter.unusedVariables false
set_option linter.unusedSimpArgs false
namespace Vx
open Go Go.RowKit

section
variable {P : Program} {cx : Cx} {F : Fr} {σ : St} {a : Act} {w : World} {g : Gm}
theorem run_sizeOf' {t : TypeId} {ti : TI} (ht : TIok P t ti) (w : World) : (Go.sizeOf t).run P w = .ok ti.size w := by
  obtain ⟨i, z, h1, h2, _⟩ := ht.inf
  simp [Go.sizeOf, typeInfo, h1, h2]
theorem run_isAgg' {t : TypeId} {ti : TI} (ht : TIok P t ti) (w : World) : (isAgg t).run P w = .ok (isSt ti.k) w := by
  have hu := ht.und
  unfold isAgg isSt
  split at hu <;> rename_i hk
  · simp [run_underlying hu, hk]
  · simp [run_underlying hu, hk]
  · simp [run_underlying hu, hk]
  · simp [run_underlying hu, hk]
  · obtain ⟨fields, hu, _⟩ := hu
    simp [run_underlying hu, hk]
theorem inR_ok {α : Type} {i : Int} {n : Nat} {m : Rd α} {G : Loc → Ct} {y : α} (h : (inR i n m).run G = some y) : 0 ≤ i ∧ i < n ∧ m.run G = some y := by
  obtain ⟨h1, h⟩ := run_test h
  obtain ⟨h2, h⟩ := run_test h
  exact ⟨by simpa using h1, by simpa using h2, h⟩
theorem asInt_ok {x : AV} {n : Int} {G : Loc → Ct} {u : Value} (hx : AVRep g F.base w u x) (h : (asInt x).run G = some n) : ∃ k, u = .int k n := by
  unfold asInt at h
  split at h
  · obtain rfl := run_ret h
    exact ⟨_, hx⟩
  · cases h
theorem indexAddr_ok (h : Sat F σ a w g) {t e : TypeId} {te : TI} (hu : P.underlying t = some (.slice e)) (he : TIok P e te) {x y : AV} {u iv : Value} {n : Int} {k : IntKind} (hx : AVRep g F.base w u x) (hi : iv = .int k n)
    (hr : (indexAddrR te.size x n).run (get σ) = some y) : ∃ v, (Instr.indexAt t u iv).run P w = .ok v w ∧ AVRep g F.base w v y := by
  subst hi
  have hrun : ∀ (ad : Addr) (len cap : Nat), u = .slice (some ad) len cap → 0 ≤ n → n < len → (Instr.indexAt t u (.int k n)).run P w = .ok (.pointer (some (ad.add (n.toNat * te.size)))) w := fun ad len cap hu' h0 h1 => by
    subst hu'
    simp [Instr.indexAt, asIntOf, run_underlying hu, h0, h1, run_sizeOf' he]
  unfold indexAddrR at hr
  split at hr
  · rename_i fr d
    obtain ⟨hs, hr⟩ := run_test hr
    have hs := Nat.eq_of_beq_eq_true hs
    obtain ⟨h0, h1, hr⟩ := inR_ok hr
    obtain rfl := run_ret hr
    obtain ⟨A, cap, e1, e2, e3⟩ := (hx : RowRep w (PG g F.base fr) u d)
    obtain ⟨ad, rfl, hb, hc⟩ := e3 (by omega)
    refine ⟨_, hrun ad d.len cap e1 h0 h1, _, rfl, by rw [add_block]; exact hb, fun j c hj => ?_⟩
    have hjw : j < d.wd := by rw [← cells_len d n.toNat]; exact (List.getElem?_eq_some_iff.1 hj).1
    rw [hs, add_add]
    exact hc _ c (by rw [flat_cells d (by omega) j hjw]; exact hj)
  · rename_i r
    have hr' := run_ask hr
    split at hr'
    · rename_i own fr d hd
      obtain ⟨hs, hr⟩ := run_test hr'
      have hs := Nat.eq_of_beq_eq_true hs
      obtain ⟨h0, h1, hr⟩ := inR_ok hr
      obtain rfl := run_ret hr
      obtain ⟨hx1, rfl⟩ := hx
      obtain ⟨_, ⟨hw, hl⟩, _⟩ := h.row r _ _ _ hd
      obtain ⟨A, cap, e1, e2, e3⟩ := h.rowLook hd
      obtain ⟨ad, rfl, hc⟩ := e3 (by omega)
      have h00 : (d.flat)[0]? ≠ none := by
        have : 0 < d.flat.length := by rw [flat_len]; exact Nat.mul_pos (by omega) (wd_pos d)
        simp [this]
      have hsp : ad.spot = none := by
        cases h0' : d.flat[0]? with
        | none => exact absurd h0' h00
        | some c =>
          obtain ⟨x, hx, _⟩ := hc 0 c h0'
          have : ad.add 0 = ad := rfl
          rw [this] at hx
          unfold World.cell? at hx
          split at hx
          · split at hx
            · cases hx
            · rename_i hs; cases hsp : ad.spot <;> simp_all
          · cases hx
      refine ⟨_, hrun ad d.len cap e1 h0 h1, hx1, by rw [hl]; omega, ad, d.len, cap, e1, by rw [Nat.add_zero, hs, hw], hsp⟩
    · cases hr'
  · rename_i r lo hi
    have hr' := run_ask hr
    split at hr'
    · rename_i own fr d hd
      obtain ⟨hs, hr⟩ := run_test hr'
      have hs := Nat.eq_of_beq_eq_true hs
      obtain ⟨h0, h1, hr⟩ := inR_ok hr
      obtain rfl := run_ret hr
      obtain ⟨hx1, hx2, hx3, A, len, cap, hx4, hu4⟩ := hx
      obtain ⟨_, ⟨hw, hl⟩, _⟩ := h.row r _ _ _ hd
      obtain ⟨A', cap', e1, e2, e3⟩ := h.rowLook hd
      rw [hx4] at e1
      injection e1 with e1 e4 e5
      subst e1; subst e4; subst e5
      obtain ⟨ad, rfl, hc⟩ := e3 (by omega)
      have h00 : (d.flat)[0]? ≠ none := by
        have : 0 < d.flat.length := by rw [flat_len]; exact Nat.mul_pos (by omega) (wd_pos d)
        simp [this]
      have hsp : ad.spot = none := by
        cases h0' : d.flat[0]? with
        | none => exact absurd h0' h00
        | some c =>
          obtain ⟨x, hx, _⟩ := hc 0 c h0'
          have : ad.add 0 = ad := rfl
          rw [this] at hx
          unfold World.cell? at hx
          split at hx
          · split at hx
            · cases hx
            · rename_i hs; cases hsp : ad.spot <;> simp_all
          · cases hx
      rw [if_neg (by omega)] at hu4
      refine ⟨_, hrun _ _ _ hu4 h0 (by omega), hx1, by omega, ad, d.len, cap, hx4, ?_, hsp⟩
      rw [add_add, hs, hw, Nat.add_zero, ← Nat.add_mul]
    · cases hr'
  · cases hr

theorem field_ok (h : Sat F σ a w g) {t : TypeId} {ti : TI} (ht : TIok P t ti) {f : Nat} {x y : AV} {u : Value} (hx : AVRep g F.base w u x) (hr : (fieldR ti f x).run (get σ) = some y) :
    ∃ v, (Instr.fieldAt t u f).run P w = .ok v w ∧ AVRep g F.base w v y := by
  have key : ∀ (fs : List (Nat × Nat)) (o s : Nat) (ad : Addr), ti.k = .struct fs → fs[f]? = some (o, s) → 0 < s → u = .pointer (some ad) → (Instr.fieldAt t u f).run P w = .ok (.pointer (some (ad.add o))) w := fun fs o s ad hk hf hs hu => by
    have hd := ht.und
    rw [hk] at hd
    obtain ⟨fields, hd, hall⟩ := hd
    obtain ⟨fl, hfl, ho, i, hi, his⟩ := hall.get f _ hf
    have hfl' : fields[f]? = some fl := by simpa using hfl
    subst hu
    have hne : ¬ i.size = 0 := by omega
    simp [Instr.fieldAt, run_underlying hd, hfl', Instr.sureAddr, fieldPlace, Go.sizeOf, typeInfo, hi, hne, ho]
  unfold fieldR at hr
  split at hr
  · rename_i b off
    split at hr
    · rename_i fs hk
      split at hr
      · rename_i o s hf
        obtain ⟨hs, hr⟩ := run_test hr
        obtain rfl := run_ret hr
        refine ⟨_, key fs o s _ hk hf (by simpa using hs) hx.2, hx.1, ?_⟩
        unfold Addr.add
        split
        · rename_i h0; subst h0; rfl
        · rfl
      · cases hr
    · cases hr
  · rename_i fr cs
    split at hr
    · rename_i fs hk
      split at hr
      · rename_i o s hf
        obtain ⟨hs, hr⟩ := run_test hr
        obtain rfl := run_ret hr
        obtain ⟨ad, h1, h2, h3⟩ := hx
        refine ⟨_, key fs o s ad hk hf (by simpa using hs) h1, ad.add o, rfl, by rw [add_block]; exact h2, fun j c hj => ?_⟩
        rw [List.getElem?_drop] at hj
        rw [add_add]
        exact h3 _ c hj
      · cases hr
    · cases hr
  · rename_i i e off
    split at hr
    · rename_i fs hk
      split at hr
      · rename_i o s hf
        obtain ⟨hs, hr⟩ := run_test hr
        obtain rfl := run_ret hr
        obtain ⟨h1, h0, ad, len, cap, h2, h3, h4⟩ := hx
        exact ⟨_, key fs o s _ hk hf (by simpa using hs) h3, h1, h0, ad, len, cap, h2, by rw [add_add, Nat.add_assoc], h4⟩
      · cases hr
    · cases hr
  · cases hr
theorem dc_cell {Pi : Nat → Prop} {fr : Bool} {u : Value} {c : DC} (hp : ∀ j, Pi j → PG g F.base fr j) (h : DRep w Pi u c) : CellRep g F.base w u (dcCell fr c) := by
  cases c with
  | sc v => exact h
  | ir xs =>
    obtain ⟨A, cap, h1, h2, h3⟩ := h
    refine ⟨A, cap, h1, h2, fun hl => ?_⟩
    obtain ⟨ad, ha, hb, hc⟩ := h3 hl
    refine ⟨ad, ha, hp _ hb, fun j c hj => ?_⟩
    simp only [Row.flat, List.getElem?_map, Option.map_eq_some_iff] at hj
    obtain ⟨n, hn, rfl⟩ := hj
    have hl := (List.getElem?_eq_some_iff.1 hn).1
    refine ⟨_, hc j hl, ?_⟩
    simp [DRep, List.getD_eq_getElem?_getD, hn]
/-- Cells read one by one. -/
theorem loadVar_ok {t : TypeId} {ti : TI} (ht : TIok P t ti) {ad : Addr} {us : List Value} {cs : List Cell} (hcell : ∀ (j : Nat) v, us[j]? = some v → w.cell? (ad.add j) = some v) (hl : us.length = ti.size) (hall : All2 (CellRep g F.base w) us cs)
    {y : AV} {G : Loc → Ct} (hr : (loadCs (isSt ti.k) cs).run G = some y) : ∃ v, (loadVar t ad).run P w = .ok v w ∧ AVRep g F.base w v y := by
  unfold loadCs at hr
  split at hr
  · rename_i hst
    obtain rfl := run_ret hr
    refine ⟨.agg us.toArray, ?_, us, rfl, hall⟩
    have := run_loadCells_list (P := P) (w := w) ad us hcell
    rw [hl] at this
    simp [loadVar, run_isAgg' ht, hst, run_sizeOf' ht, this]
  · rename_i c hst
    obtain rfl := run_ret hr
    cases hall with
    | cons h1 t1 =>
      cases t1
      rename_i u
      refine ⟨u, ?_, h1⟩
      have h0 := hcell 0 u rfl
      have e : ad.add 0 = ad := rfl
      rw [e] at h0
      simp [loadVar, run_isAgg' ht, hst, h0]
  · cases hr
theorem list_of_cells {n : Nat} {p : Nat → Value → Prop} (h : ∀ j, j < n → ∃ x, p j x) : ∃ l : List Value, l.length = n ∧ ∀ j x, l[j]? = some x → p j x := by
  induction n with
  | zero => exact ⟨[], rfl, fun j x hx => by simp at hx⟩
  | succ n ih =>
    obtain ⟨l, hl, hp⟩ := ih fun j hj => h j (by omega)
    obtain ⟨x, hx⟩ := h n (by omega)
    refine ⟨l ++ [x], by simp [hl], fun j y hy => ?_⟩
    by_cases hj : j < n
    · rw [List.getElem?_append_left (by omega)] at hy
      exact hp j y hy
    · have hjl := (List.getElem?_eq_some_iff.1 hy).1
      simp [hl] at hjl
      have : j = n := by omega
      subst this
      rw [List.getElem?_append_right (by omega)] at hy
      simp [hl] at hy
      exact hy ▸ hx
theorem fitR_ok {α : Type} {n off : Nat} {cs : List α} (h : fitR n off cs = true) : off + n ≤ cs.length := by simpa [fitR] using h
theorem load_ok (h : Sat F σ a w g) {t : TypeId} {ti : TI} (ht : TIok P t ti) {x y : AV} {u : Value} (hx : AVRep g F.base w u x) (hr : (loadR ti (isSt ti.k) x).run (get σ) = some y) :
    ∃ v, (Instr.loadAt t u).run P w = .ok v w ∧ AVRep g F.base w v y := by
  unfold loadR at hr
  split at hr
  · rename_i b off
    have hr' := run_ask hr
    split at hr'
    · rename_i cs hb
      obtain ⟨hf, hr⟩ := run_test hr'
      have hf := fitR_ok hf
      obtain ⟨hx1, rfl⟩ := hx
      obtain ⟨_, us, ty, hg, hall, _⟩ := h.box b cs hb
      have hlen := hall.length
      obtain ⟨v, hv1, hv2⟩ := loadVar_ok (P := P) ht (ad := ⟨g.bb b, off, none⟩) (us := (us.drop off).take ti.size) (cs := (cs.drop off).take ti.size) (fun j v hj => by
        rw [List.getElem?_take] at hj
        split at hj
        · rw [List.getElem?_drop] at hj
          have e : (⟨g.bb b, off, none⟩ : Addr).add j = ⟨g.bb b, off + j, none⟩ := by unfold Addr.add; split <;> simp_all
          rw [e]
          simp [World.cell?, hg]
          exact hj
        · cases hj) (by simp; omega) ((hall.drop off).take ti.size) hr
      exact ⟨v, by simpa [Instr.loadAt, Instr.sureAddr] using hv1, hv2⟩
    · cases hr'
  · rename_i fr cs
    obtain ⟨hf, hr⟩ := run_test hr
    have hf := fitR_ok hf
    obtain ⟨ad, rfl, h2, h3⟩ := hx
    obtain ⟨us, hul, hus⟩ := list_of_cells (n := ti.size) (p := fun j x => w.cell? (ad.add j) = some x ∧ ∀ c, cs[j]? = some c → DRep w (PG g F.base fr) x c) fun j hj => by
      have hlt : j < cs.length := by omega
      obtain ⟨x, hx1, hx2⟩ := h3 j _ (List.getElem?_eq_getElem hlt)
      exact ⟨x, hx1, fun c hc => by rw [List.getElem?_eq_getElem hlt] at hc; cases hc; exact hx2⟩
    obtain ⟨v, hv1, hv2⟩ := loadVar_ok (P := P) (F := F) (g := g) ht (ad := ad) (us := us) (cs := (cs.take ti.size).map (dcCell fr)) (fun j v hj => (hus j v hj).1) hul
      (All2.map_right (All2.of_get (by simp [hul]; omega) fun j x c hx hc => dc_cell (fun _ hp => hp) ((hus j x hx).2 c (by rw [List.getElem?_take] at hc; split at hc; exact hc; cases hc)))) hr
    exact ⟨v, by simpa [Instr.loadAt, Instr.sureAddr] using hv1, hv2⟩
  · rename_i i e off
    have hr' := run_ask hr
    split at hr'
    · rename_i own fr d hd
      obtain ⟨hf, hr⟩ := run_test hr'
      have hf := fitR_ok hf
      obtain ⟨h1, h0, ad, len, cap, h2, rfl, h4⟩ := hx
      obtain ⟨_, ⟨hw, hl⟩, _⟩ := h.row i _ _ _ hd
      obtain ⟨A, cap', e1, e2, e3⟩ := h.rowLook hd
      rw [h2] at e1
      injection e1 with e1 e4 e5
      obtain ⟨ad', ha, hc⟩ := e3 (by omega)
      rw [ha] at e1
      injection e1 with e1
      subst e1
      rw [cells_len] at hf
      obtain ⟨us, hul, hus⟩ := list_of_cells (n := ti.size) (p := fun j x => w.cell? ((ad.add (e * g.wd i + off)).add j) = some x ∧ ∀ c, (d.cells e)[off + j]? = some c → DRep w (PG g F.base fr) x c) fun j hj => by
        have hlt : off + j < (d.cells e).length := by rw [cells_len]; omega
        have hfl := flat_cells d (e := e) (by omega) (off + j) (by omega)
        rw [List.getElem?_eq_getElem hlt] at hfl
        obtain ⟨x, hx1, hx2⟩ := hc _ _ hfl
        refine ⟨x, ?_, fun c hcc => ?_⟩
        · rw [add_add, hw, Nat.add_assoc]; exact hx1
        · rw [List.getElem?_eq_getElem hlt] at hcc; cases hcc; exact hx2
      obtain ⟨v, hv1, hv2⟩ := loadVar_ok (P := P) (F := F) (g := g) ht (ad := ad.add (e * g.wd i + off)) (us := us) (cs := (((d.cells e).drop off).take ti.size).map (dcCell fr)) (fun j v hj => (hus j v hj).1) hul
        (All2.map_right (All2.of_get (by simp [hul, cells_len]; omega) fun j x c hx hcc => dc_cell (fun _ hp => hp) ((hus j x hx).2 c (by
          rw [List.getElem?_take] at hcc
          split at hcc
          · rw [List.getElem?_drop] at hcc; exact hcc
          · cases hcc)))) hr
      exact ⟨v, by simpa [Instr.loadAt, Instr.sureAddr] using hv1, hv2⟩
    · cases hr'
  · cases hr
end
end Vx
