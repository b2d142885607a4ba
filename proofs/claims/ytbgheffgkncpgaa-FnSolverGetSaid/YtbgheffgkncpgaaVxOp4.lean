/- The operations: cuts, conversions. Conditions: those that each theorem states. -/
import Derived.Test.YtbgheffgkncpgaaVxOp3
set_option linter.unusedVariables false
set_option linter.unusedSimpArgs false
namespace Vx
open Go Go.RowKit

section
variable {P : Program} {cx : Cx} {F : Fr} {σ : St} {a : Act} {w : World} {g : Gm}
theorem boundR_ok (h : Sat F σ a w g) {x : Option Operand} {dft n : Int} (hr : (boundR x dft).run (get σ) = some n) : (x = none ∧ n = dft) ∨ ∃ y k, x = some y ∧ a.eval y = .int k n := by
  cases x with
  | none => exact .inl ⟨rfl, (run_ret hr).symm⟩
  | some y =>
    obtain ⟨v, hv, hr⟩ := run_bind_some hr
    obtain ⟨k, hk⟩ := asInt_ok (opv_ok h hv) hr
    exact .inr ⟨y, k, rfl, hk⟩
/-- The bounds, as the model reckons them. -/
theorem run_bounds {isS : Bool} {len cap : Nat} {lo hi : Option Operand} {l h : Int} (hl : (lo = none ∧ l = 0) ∨ ∃ y k, lo = some y ∧ a.eval y = .int k l) (hh : (hi = none ∧ h = len) ∨ ∃ y k, hi = some y ∧ a.eval y = .int k h)
    (h0 : 0 ≤ l) (h1 : l ≤ h) (h2 : h ≤ cap) : (Instr.sliceBounds isS len cap (lo.map a.eval) (hi.map a.eval) none).run P w = .ok (l.toNat, h.toNat, cap) w := by
  have hb : ∀ (v : Value) (k : IntKind) (n : Int) (y : Nat) (c : BoundsCode), v = .int k n → 0 ≤ n → n ≤ y → (Instr.sliceBound v y c).run P w = .ok n.toNat w := fun v k n y c hv h0 h1 => by
    subst hv
    simp [Instr.sliceBound, asIntOf, h0, h1]
  unfold Instr.sliceBounds
  rcases hh with ⟨rfl, rfl⟩ | ⟨y, k, rfl, hy⟩
  · rcases hl with ⟨rfl, rfl⟩ | ⟨z, k', rfl, hz⟩
    · simp
    · simp [hb _ _ _ len _ hz h0 h1]
  · have e1 := hb _ _ _ cap (if isS = true then BoundsCode.sliceAcap else BoundsCode.sliceAlen) hy (by omega) h2
    rcases hl with ⟨rfl, rfl⟩ | ⟨z, k', rfl, hz⟩
    · simp [e1]
    · have e2 := hb _ _ _ h.toNat BoundsCode.sliceB hz h0 (by omega)
      simp [e1, e2]
theorem sliceS_ok (h : Sat F σ a w g) {t : TypeId} (hu : P.underlying t = some .string) {s : ByteArray} {lo hi : Option Operand} {y : AV} (hr : (sliceS s lo hi).run (get σ) = some y) :
    ∃ v, (Instr.sliceAt t (.string s) (lo.map a.eval) (hi.map a.eval) none).run P w = .ok v w ∧ AVRep g F.base w v y := by
  obtain ⟨l, hl, hr⟩ := run_bind_some hr
  obtain ⟨hh, hh', hr⟩ := run_bind_some hr
  obtain ⟨h0, hr⟩ := run_test hr
  obtain ⟨h1, hr⟩ := run_test hr
  obtain ⟨h2, hr⟩ := run_test hr
  obtain rfl := run_ret hr
  simp only [decide_eq_true_eq] at h0 h1 h2
  refine ⟨.string (s.extract l.toNat hh.toNat), ?_, rfl⟩
  have := run_bounds (P := P) (w := w) (isS := false) (len := s.size) (cap := s.size) (boundR_ok h hl) (boundR_ok h hh') h0 h1 h2
  simp [Instr.sliceAt, Instr.slice, run_underlying hu, this]
theorem sliceR_ok (h : Sat F σ a w g) {t e : TypeId} {te : TI} (hu : P.underlying t = some (.slice e)) (he : TIok P e te) {x y : AV} {u : Value} (hx : AVRep g F.base w u x) {lo hi : Option Operand} (hr : (sliceR te.size x lo hi).run (get σ) = some y) :
    ∃ v, (Instr.sliceAt t u (lo.map a.eval) (hi.map a.eval) none).run P w = .ok v w ∧ AVRep g F.base w v y := by
  have key : ∀ (A : Option Addr) (len cap : Nat) (l hh : Int), u = .slice A len cap → ((lo = none ∧ l = 0) ∨ ∃ y k, lo = some y ∧ a.eval y = .int k l) → ((hi = none ∧ hh = len) ∨ ∃ y k, hi = some y ∧ a.eval y = .int k hh) → 0 ≤ l → l ≤ hh → hh ≤ cap →
      (Instr.sliceAt t u (lo.map a.eval) (hi.map a.eval) none).run P w = .ok (.slice (if cap = l.toNat then A else A.map (·.add (l.toNat * te.size))) (hh.toNat - l.toNat) (cap - l.toNat)) w := fun A len cap l hh hu' hl hh' h0 h1 h2 => by
    subst hu'
    have := run_bounds (P := P) (w := w) (isS := true) (len := len) (cap := cap) hl hh' h0 h1 h2
    simp [Instr.sliceAt, Instr.slice, run_underlying hu, this, run_sizeOf' he]
  unfold sliceR at hr
  split at hr
  · rename_i fr d
    obtain ⟨l, hl, hr⟩ := run_bind_some hr
    obtain ⟨hh, hh', hr⟩ := run_bind_some hr
    obtain ⟨hs, hr⟩ := run_test hr
    obtain ⟨h0, hr⟩ := run_test hr
    obtain ⟨h1, hr⟩ := run_test hr
    obtain ⟨h2, hr⟩ := run_test hr
    obtain rfl := run_ret hr
    simp only [decide_eq_true_eq] at h0 h1 h2
    have hs := Nat.eq_of_beq_eq_true hs
    have hx' : RowRep w (PG g F.base fr) u d := hx
    obtain ⟨A, cap, e1, e2, e3⟩ := hx'
    refine ⟨_, key A d.len cap l hh e1 (boundR_ok h hl) (boundR_ok h hh') h0 h1 (by omega), ?_⟩
    have hlk : RowLook w (PG g F.base fr) (.slice A d.len cap) d := by rw [← e1]; exact RowRep.look hx
    obtain ⟨A', cap', e4, e5, e6⟩ := hlk.sub (lo := l.toNat) (hi := hh.toNat) (by omega) (by omega)
    refine ⟨A', cap', by rw [hs]; exact e4, e5, fun hp => ?_⟩
    obtain ⟨ad, ha, hc⟩ := e6 hp
    refine ⟨ad, ha, ?_, hc⟩
    rw [len_sub d (by omega)] at hp
    obtain ⟨ad0, rfl, hb, _⟩ := e3 (by omega)
    injection e4 with e4 _ _
    rw [if_neg (by omega), ha] at e4
    simp only [Option.map_some, Option.some.injEq] at e4
    rw [← e4, add_block]
    exact hb
  · rename_i i
    have hr' := run_ask hr
    split at hr'
    · rename_i own fr d hd
      obtain ⟨l, hl, hr⟩ := run_bind_some hr'
      obtain ⟨hh, hh', hr⟩ := run_bind_some hr
      obtain ⟨hs, hr⟩ := run_test hr
      obtain ⟨h0, hr⟩ := run_test hr
      obtain ⟨h1, hr⟩ := run_test hr
      obtain ⟨h2, hr⟩ := run_test hr
      obtain rfl := run_ret hr
      simp only [decide_eq_true_eq] at h0 h1 h2
      have hs := Nat.eq_of_beq_eq_true hs
      obtain ⟨hx1, rfl⟩ := hx
      obtain ⟨_, ⟨hw, hl'⟩, _⟩ := h.row i _ _ _ hd
      obtain ⟨A, cap, e1, e2, e3⟩ := h.rowLook hd
      exact ⟨_, key A d.len cap l hh e1 (boundR_ok h hl) (boundR_ok h hh') h0 h1 (by omega), hx1, by omega, by omega, A, d.len, cap, e1, by rw [hs, hw]⟩
    · cases hr'
  · cases hr
theorem conv_ok (h : Sat F σ a w g) {ta tb : TypeId} {ia ib : TI} (hA : TIok P ta ia) (hB : TIok P tb ib) {x y : AV} {u : Value} (hx : AVRep g F.base w u x) (hr : (convR ia.k ib.k x).run (get σ) = some y)
    (hu8 : ∀ e, ia.k = .slice e → P.underlying e = some (.int .u8)) : ∃ v, (convert ta tb u).run P w = .ok v w ∧ AVRep g F.base w v y := by
  have ha := hA.und
  have hbb := hB.und
  unfold convR at hr
  split at hr
  · rename_i k k' k'' n hka hkb
    obtain rfl := run_ret hr
    rw [hka] at ha; rw [hkb] at hbb
    obtain rfl : u = .int k'' n := hx
    exact ⟨_, by simp [convert, run_underlying ha, run_underlying hbb, Conv.intToInt], rfl⟩
  · rename_i s hka hkb
    obtain rfl := run_ret hr
    rw [hka] at ha; rw [hkb] at hbb
    obtain rfl : u = .string s := hx
    exact ⟨_, by simp [convert, run_underlying ha, run_underlying hbb], rfl⟩
  · rename_i e hka hkb
    obtain ⟨⟨d, fr⟩, hd, hr⟩ := run_bind_some hr
    rw [hka] at ha; rw [hkb] at hbb
    have h8 := hu8 e hka
    split at hr
    · rename_i xs hxs
      obtain rfl := run_ret hr
      have hxs' : d = .ints .u8 xs := hxs
      subst hxs'
      obtain ⟨A, cap, rfl, e2, e3⟩ := rowR_ok h hx hd
      refine ⟨.string (strOf xs), ?_, rfl⟩
      cases xs with
      | nil =>
        cases A with
        | none => simp [convert, run_underlying ha, run_underlying hbb, run_underlying h8, Conv.bytesToString, strOf, Row.len]; rfl
        | some ad =>
          have := run_loadCells_list (P := P) (w := w) ad [] (fun j v hj => by simp at hj)
          simp only [List.length_nil] at this
          simp [convert, run_underlying ha, run_underlying hbb, run_underlying h8, Conv.bytesToString, strOf, Row.len, this]; rfl
      | cons y ys =>
        obtain ⟨ad, rfl, hc⟩ := e3 (by simp [Row.len])
        have hc0 := hc 0 _ (by simp [Row.flat]; rfl)
        obtain ⟨x0, hx0, _⟩ := hc0
        have e0 : ad.add 0 = ad := rfl
        rw [e0] at hx0
        have hsp : ad.spot = none := by
          unfold World.cell? at hx0
          split at hx0
          · split at hx0
            · cases hx0
            · rename_i hs; cases hsp : ad.spot <;> simp_all
          · cases hx0
        obtain ⟨b, off, spot⟩ := ad
        simp only at hsp
        subst hsp
        exact run_convert_bytes_arg w ta e ha h8 b off _ cap (y :: ys) rfl (fun i hi => by
          obtain ⟨x, hx1, hx2⟩ := hc i (.sc (.int .u8 ((y :: ys).getD i 0))) (by
            simp only [Row.flat, List.getElem?_map]
            rw [List.getElem?_eq_getElem (by simpa [Row.len] using hi)]
            simp [List.getD_eq_getElem?_getD, List.getElem?_eq_getElem (show i < (y :: ys).length by simpa [Row.len] using hi)])
          have hp : (⟨b, off, none⟩ : Addr).add i = ⟨b, off + i, none⟩ := by unfold Addr.add; split <;> simp_all
          rw [← hp, hx1, hx2]) tb hbb
    · cases hr
  · cases hr
end
end Vx
