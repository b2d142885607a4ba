/- The operations: stores into rows. Conditions: those that each theorem states. -/
import Derived.Test.YtbgheffgkncpgaaVxOp6
set_option linter.unusedVariables false
set_option linter.unusedSimpArgs false
namespace Vx
open Go Go.RowKit

section
variable {P : Program} {cx : Cx} {F : Fr} {σ : St} {a : Act} {w : World} {g : Gm}
theorem PG.and_l {g : Gm} {base : Nat} {x y : Bool} {j : Nat} (h : PG g base x j) : PG g base (x && y) j := ⟨h.1, fun e => h.2 (by cases x <;> simp_all)⟩
theorem PG.and_r {g : Gm} {base : Nat} {x y : Bool} {j : Nat} (h : PG g base y j) : PG g base (x && y) j := ⟨h.1, fun e => h.2 (by cases x <;> simp_all)⟩
theorem owns_store {e : TypeId} {size n len cap : Nat} {v : Value} {xs us : List Value} {ad : Addr} (ho : w.ownsRow 0 e size v n xs) (hv : v = .slice (some ad) len cap) {p : Nat} (hp : p + us.length ≤ n * size) (h1 : ∀ u ∈ us, u.oneCell' = true) :
    ∃ w', (storeCells (ad.add p) us 0).run P w = .ok () w' ∧ w'.ownsRow 0 e size v n (replAt xs p us) ∧ Chg (fun j => v.ownBlock = some j) w w' := by
  rcases ho.2 with ⟨rfl, _⟩ | ⟨b, cap', cur, rfl, _, hg, hn, hm, hs, ht⟩
  · cases hv
  · injection hv with hv _ _
    injection hv with hv
    subst hv
    have hadd : (⟨b, 0, none⟩ : Addr).add p = ⟨b, p, none⟩ := by unfold Addr.add; split <;> simp_all
    have hns : n * size ≤ cur.size := by rw [hs]; exact Nat.mul_le_mul_right _ hn
    have hrun := run_storeCells_at P b p e us 0 cur w hg (by omega) h1
    rw [hadd]
    refine ⟨_, hrun, ⟨?_, .inr ⟨b, cap', _, rfl, Nat.zero_le _, setRow_heap w b cur _ e (0, 0) hg, hn, hm, ?_, ?_⟩⟩, (Chg.setRow w b _).mono fun j _ hj => (by rw [hj]; rfl)⟩
    · have := ho.1
      simp only [replAt, List.length_append, List.length_take, List.length_drop]
      omega
    · simp only [List.size_toArray, List.length_append, List.length_take, List.length_drop, Array.length_toList]
      omega
    · rw [← ht]
      unfold replAt
      simp only [Nat.add_zero]
      rw [List.take_append, List.take_append]
      simp only [List.length_append, List.length_take, Array.length_toList, List.take_take]
      have e1 : min p cur.size = p := by omega
      have e2 : min (n * size) p = p := by omega
      have e3 : min p (n * size) = p := by omega
      simp only [e1, e2, e3]
      congr 1
      · congr 1
        exact List.take_of_length_le (by omega)
      · rw [List.take_drop, List.drop_take]
        congr 1
        have : p + us.length + (n * size - (p + us.length)) = n * size := by omega
        rw [this, List.drop_take]
theorem repl_get {α : Type} {cs us : List α} {p : Nat} (hp : p + us.length ≤ cs.length) {j : Nat} {c : α} (hj : (replAt cs p us)[j]? = some c) : (p ≤ j ∧ us[j - p]? = some c) ∨ ((j < p ∨ p + us.length ≤ j) ∧ cs[j]? = some c) := by
  unfold replAt at hj
  by_cases h1 : j < p
  · rw [List.append_assoc, List.getElem?_append_left (by simp; omega), List.getElem?_take, if_pos h1] at hj
    exact .inr ⟨.inl h1, hj⟩
  · rw [List.append_assoc, List.getElem?_append_right (by simp; omega)] at hj
    have e : min p cs.length = p := by omega
    simp only [List.length_take, e] at hj
    by_cases h2 : j - p < us.length
    · rw [List.getElem?_append_left h2] at hj
      exact .inl ⟨by omega, hj⟩
    · rw [List.getElem?_append_right (by omega), List.getElem?_drop] at hj
      exact .inr ⟨.inr (by omega), by rw [← hj]; congr 1; omega⟩
theorem repl_get_in {α : Type} {cs us : List α} {p : Nat} (hp : p + us.length ≤ cs.length) {j : Nat} (h1 : p ≤ j) (h2 : j < p + us.length) : (replAt cs p us)[j]? = us[j - p]? := by
  unfold replAt
  have e : min p cs.length = p := by omega
  rw [List.append_assoc, List.getElem?_append_right (by simp; omega)]
  simp only [List.length_take, e]
  rw [List.getElem?_append_left (by omega)]
theorem repl_get_out {α : Type} {cs us : List α} {p : Nat} (hp : p + us.length ≤ cs.length) {j : Nat} (h : j < p ∨ p + us.length ≤ j) : (replAt cs p us)[j]? = cs[j]? := by
  unfold replAt
  have e : min p cs.length = p := by omega
  rcases h with h | h
  · rw [List.append_assoc, List.getElem?_append_left (by simp; omega), List.getElem?_take, if_pos h]
  · rw [List.append_assoc, List.getElem?_append_right (by simp; omega)]
    simp only [List.length_take, e]
    rw [List.getElem?_append_right (by omega), List.getElem?_drop]
    congr 1; omega
/-- Cells of a row of one's own, written: what the store does, and the state behind it. -/
theorem storeCells_ok (h : Sat F σ a w g) {i : Nat} {fr : Bool} {d : Row} (hi : get σ (.r i) = .row true fr d) {ad : Addr} {len cap : Nat} (hv : g.rv i = .slice (some ad) len cap) {p : Nat} {us : List Value} {ns : List DC} {fr' : Bool} {d' : Row}
    (hk : d'.kind = d.kind) (hw : d'.wd = d.wd) (hl : d'.len = d.len) (hfr : fr' = true → fr = true) (hf : d'.flat = replAt d.flat p ns) (hp : p + us.length ≤ d.len * d.wd) (hu : All2 (DRep w (PG g F.base fr')) us ns) (h1 : ∀ u ∈ us, u.oneCell' = true) :
    ∃ w', (storeCells (ad.add p) us 0).run P w = .ok () w' ∧ Sat F ((.r i, .row true fr' d') :: σ) a w' g := by
  obtain ⟨_, _, ⟨e, he, cs, ho, hc⟩, hb⟩ := h.row i _ _ _ hi
  obtain ⟨w', hr, ho', hch⟩ := owns_store (P := P) ho hv hp h1
  refine ⟨w', hr, h.setRow hch hi (fun j hj => hj) hk hw hl hfr fun e' he' _ => ?_⟩
  have : e' = e := Option.some.inj (he'.symm.trans he)
  subst this
  have hlen := ho.1
  have hfl := flat_len d
  have hun := hu.length
  have hng : ∀ x, ∀ j, PG g F.base x j → ¬ (g.rv i).ownBlock = some j := fun x j hj e => (hb j e).1 hj.1
  refine ⟨replAt cs p us, by rw [hw, hl]; exact ho', fun j c hj => ?_⟩
  rw [hf] at hj
  rcases repl_get (by omega) hj with ⟨hj1, hj2⟩ | ⟨hj1, hj2⟩
  · have hlt := (List.getElem?_eq_some_iff.1 hj2).1
    obtain ⟨x, hx1, hx2⟩ := hu.get (j - p) c hj2
    refine ⟨x, ?_, hx2.chg hch (hng _) fun _ h => h⟩
    rw [repl_get_in (by omega) hj1 (by omega), hx1]
  · obtain ⟨x, hx1, hx2⟩ := hc j c hj2
    refine ⟨x, ?_, hx2.chg hch (hng _) fun k hk => ?_⟩
    · rw [repl_get_out (by omega) (by omega), hx1]
    · exact ⟨hk.1, fun e => hk.2 (hfr e)⟩
theorem replAt_one {α : Type} (l : List α) (e : Nat) (x : α) (he : e < l.length) : l.set e x = replAt l e [x] := by
  unfold replAt
  rw [List.set_eq_take_append_cons_drop, if_pos he]
  simp
theorem replAt_two {α : Type} (l : List α) (e : Nat) (x y : α) (he : e + 1 < l.length) : (l.set e x).set (e + 1) y = replAt l e [x, y] := by
  apply List.ext_getElem?
  intro j
  rw [List.getElem?_set, List.getElem?_set]
  by_cases h1 : j = e
  · subst h1
    rw [repl_get_in (by simp; omega) (Nat.le_refl _) (by simp), if_neg (by omega), if_pos rfl, if_pos (by omega)]
    simp
  · by_cases h2 : j = e + 1
    · subst h2
      rw [repl_get_in (by simp; omega) (by omega) (by simp), if_pos rfl, if_pos (by simp; omega)]
      simp
    · rw [repl_get_out (by simp; omega) (by simp; omega), if_neg (by omega), if_neg (by omega)]
/-- A store through a pointer into a row. -/
theorem storeRow_ok (h : Sat F σ a w g) {t : TypeId} {ti : TI} (ht : TIok P t ti) {i e off : Nat} {fr : Bool} {d : Row} (hi : get σ (.r i) = .row true fr d) {u v : Value} (hu : AVRep g F.base w u (.pr i e off)) {us : List Cell} (hv : All2 (CellRep g F.base w) v.cells.toList us)
    (hl : us.length = ti.size) {d' : Row} {fr2 : Bool} {fz : List (Loc × Ct)} (hr : (setR d e off us).run (get σ) = some (d', fr2, fz)) :
    ∃ w' g', (Instr.storeAt t u v).run P w = .ok () w' ∧ Sat F (push (fz ++ [(.r i, .row true (fr && fr2) d')]) σ) a w' g' := by
  obtain ⟨hu1, hu2, ad, len, cap, hu3, rfl, hu5⟩ := hu
  obtain ⟨hr1, ⟨hwd, hln⟩, hr3⟩ := h.row i _ _ _ hi
  have hvl : v.cells.size = ti.size := by rw [← hl, ← hv.length]; simp
  have hst : ∀ w', (storeCells (ad.add (e * g.wd i + off)) v.cells.toList 0).run P w = .ok () w' → (Instr.storeAt t (.pointer (some (ad.add (e * g.wd i + off)))) v).run P w = .ok () w' := fun w' hw => by
    simp [Instr.storeAt, Instr.sureAddr, storeVar, run_sizeOf' ht, hvl]; exact hw
  have hflen := flat_len d
  have hfr : (fr && fr2) = true → fr = true := by cases fr <;> simp
  -- no row is frozen
  have plain : ∀ (p : Nat) (ns : List DC), p = e * g.wd i + off → fz = [] → d'.kind = d.kind → d'.wd = d.wd → d'.len = d.len → d'.flat = replAt d.flat p ns → p + v.cells.toList.length ≤ d.len * d.wd → All2 (DRep w (PG g F.base (fr && fr2))) v.cells.toList ns → (∀ u ∈ v.cells.toList, u.oneCell' = true) →
      ∃ w' g', (Instr.storeAt t (.pointer (some (ad.add (e * g.wd i + off)))) v).run P w = .ok () w' ∧ Sat F (push (fz ++ [(.r i, .row true (fr && fr2) d')]) σ) a w' g' := fun p ns hp hfz hk hw hl2 hf hpl hall h1 => by
    subst hp hfz
    obtain ⟨w', e1, e2⟩ := storeCells_ok (P := P) h hi hu3 (fr' := fr && fr2) hk hw hl2 hfr hf hpl hall h1
    exact ⟨w', g, hst w' e1, e2⟩
  have inner : ∀ (c : Cell) (xs : List Int) (fr3 : Bool) (fz' : List (Loc × Ct)) (ys : List (List Int × ByteArray)), d = .eqs ys → (innerR c).run (get σ) = some (xs, fr3, fz') → fz = fz' → fr2 = fr3 →
      ∀ (u0 : Value) (rest : List Value) (ns : List DC), v.cells.toList = u0 :: rest → CellRep g F.base w u0 c → d'.kind = d.kind → d'.wd = d.wd → d'.len = d.len → d'.flat = replAt d.flat (e * g.wd i + off) (.ir xs :: ns) → e * g.wd i + off + v.cells.toList.length ≤ d.len * d.wd → (∀ g', g.le g' → All2 (DRep w (PG g' F.base (fr && fr2))) rest ns) → (∀ u ∈ v.cells.toList, u.oneCell' = true) →
      ∃ w' g', (Instr.storeAt t (.pointer (some (ad.add (e * g.wd i + off)))) v).run P w = .ok () w' ∧ Sat F (push (fz ++ [(.r i, .row true (fr && fr2) d')]) σ) a w' g' := fun c xs fr3 fz' ys hd hin hfz hf3 u0 rest ns hve hu0 hk hw hl2 hf hpl hall h1 => by
    subst hfz hf3
    obtain ⟨g', hs, hle, hrv, hdr, hmem⟩ := innerR_ok h hu0 hin
    have hi' : get (push fz σ) (.r i) = .row true fr d := by
      rcases get_push_frozen (fun p hp => by
        obtain ⟨i', fr', d'', e1, e2, _⟩ := hmem p hp
        exact ⟨i', fr', d'', e1, e2⟩) (.r i) with h' | ⟨i', fr', d'', e1, e2, o, e3⟩
      · rw [h', hi]
      · injection e1 with e1
        subst e1
        rw [hi] at e3
        injection e3 with e4 e5 e6
        -- the frozen row is one of numbers
        exfalso
        unfold innerR at hin
        split at hin
        · have := run_ret hin; cases this
          rw [push_nil, hi] at e2
          cases e2
        · rename_i j
          have hin' := run_ask hin
          split at hin'
          · rename_i own fr4 zs hj
            have := run_ret hin'; cases this
            by_cases hij : Loc.r i = Loc.r j
            · injection hij with hij
              subst hij
              rw [hi, hd] at hj
              cases hj
            · have : get (push [(Loc.r j, Ct.row false fr2 (Row.ints .i64 xs))] σ) (.r i) = get σ (.r i) := get_other hij _ _
              rw [this, hi] at e2
              cases e2
          · cases hin'
        · cases hin
    obtain ⟨w', e1, e2⟩ := storeCells_ok (P := P) hs hi' (by rw [hrv]; exact hu3) (p := e * g.wd i + off) (us := v.cells.toList) (fr' := fr && fr2) hk hw hl2 hfr hf hpl (by
      rw [hve]
      exact .cons (hdr.chg (Chg.refl (fun _ => False) w) (fun _ _ h => h) fun j hj => hj.and_r) (hall g' hle)) h1
    refine ⟨w', g', hst w' e1, ?_⟩
    rw [push_append]
    exact e2
  unfold setR at hr
  split at hr
  · rename_i k xs k' n
    obtain ⟨hk, hr⟩ := run_test hr
    have := run_ret hr
    cases this
    obtain rfl := IntKind.eqb_iff.1 hk
    simp only [Row.len] at hln
    have hwd1 : g.wd i = 1 := hwd
    cases hve : v.cells.toList with
    | nil => rw [hve] at hv; cases hv
    | cons u0 rest =>
      rw [hve] at hv
      cases hv with
      | cons hu0 hrest =>
        cases hrest
        obtain rfl := (hu0 : u0 = _)
        refine plain (e * g.wd i + 0) [.sc (.int k n)] rfl rfl rfl rfl (by simp [Row.len]) ?_ ?_ ?_ ?_
        · rw [flat_setI, replAt_one _ _ _ (by rw [hflen]; simp [Row.len, Row.wd]; omega), hwd1]; simp
        · rw [hve, hwd1]; simp [Row.len, Row.wd]; omega
        · rw [hve]; exact .cons rfl .nil
        · rw [hve]; intro u hu; simp at hu; subst hu; rfl
  · rename_i xs s
    have := run_ret hr
    cases this
    simp only [Row.len] at hln
    have hwd1 : g.wd i = 1 := hwd
    cases hve : v.cells.toList with
    | nil => rw [hve] at hv; cases hv
    | cons u0 rest =>
      rw [hve] at hv
      cases hv with
      | cons hu0 hrest =>
        cases hrest
        obtain rfl := (hu0 : u0 = _)
        refine plain (e * g.wd i + 0) [.sc (.string s)] rfl rfl rfl rfl (by simp [Row.len]) ?_ ?_ ?_ ?_
        · rw [flat_setS, replAt_one _ _ _ (by rw [hflen]; simp [Row.len, Row.wd]; omega), hwd1]; simp
        · rw [hve, hwd1]; simp [Row.len, Row.wd]; omega
        · rw [hve]; exact .cons rfl .nil
        · rw [hve]; intro u hu; simp at hu; subst hu; rfl
  · rename_i xs c
    obtain ⟨⟨zs, fr3, fz'⟩, hin, hr⟩ := run_bind_some hr
    have := run_ret hr
    cases this
    simp only [Row.len] at hln
    have hwd2 : g.wd i = 2 := hwd
    have he : e < xs.length := by omega
    cases hve : v.cells.toList with
    | nil => rw [hve] at hv; cases hv
    | cons u0 rest =>
      rw [hve] at hv
      cases hv with
      | cons hu0 hrest =>
        cases hrest
        refine inner c zs _ _ xs rfl hin rfl rfl u0 [] [] hve hu0 rfl rfl (by simp [Row.len]) ?_ ?_ (fun _ _ => .nil) ?_
        · rw [flat_setE _ _ _ he, hwd2, Nat.add_zero]
          have hx : (Row.eqs xs).flat[e * 2 + 1]? = some (.sc (.string (xs.getD e eqD).2)) := flat_cells (.eqs xs) (e := e) he 1 (by simp [Row.wd])
          rw [← replAt_one _ _ _ (by rw [hflen]; simp [Row.len, Row.wd]; omega)]
          apply List.ext_getElem?
          intro j
          rw [List.getElem?_set]
          split
          · rename_i hj
            subst hj
            rw [if_pos (by rw [List.length_set, hflen]; simp [Row.len, Row.wd]; omega), List.getElem?_set, if_neg (by omega), hx]
          · rfl
        · rw [hve, hwd2]; simp [Row.len, Row.wd]; omega
        · rw [hve]; intro u hu; simp at hu; subst hu
          cases c with
          | sc v => cases hin
          | ro fr' d' => obtain ⟨A, cap, rfl, _⟩ := hu0; rfl
          | ref i' =>
            obtain ⟨h1, h2⟩ := hu0
            obtain ⟨A, l, c, e⟩ := (h.dr i' h1).2
            rw [h2, e]; rfl
  · rename_i xs s
    have := run_ret hr
    cases this
    simp only [Row.len] at hln
    have hwd2 : g.wd i = 2 := hwd
    have he : e < xs.length := by omega
    cases hve : v.cells.toList with
    | nil => rw [hve] at hv; cases hv
    | cons u0 rest =>
      rw [hve] at hv
      cases hv with
      | cons hu0 hrest =>
        cases hrest
        obtain rfl := (hu0 : u0 = _)
        refine plain (e * g.wd i + 1) [.sc (.string s)] rfl rfl rfl rfl (by simp [Row.len]) ?_ ?_ ?_ ?_
        · rw [flat_setE _ _ _ he, hwd2]
          have hx : (Row.eqs xs).flat[e * 2 + 0]? = some (.ir (xs.getD e eqD).1) := flat_cells (.eqs xs) (e := e) he 0 (by simp [Row.wd])
          rw [← replAt_one _ _ _ (by rw [hflen]; simp [Row.len, Row.wd]; omega)]
          congr 1
          apply List.ext_getElem?
          intro j
          rw [List.getElem?_set]
          split
          · rename_i hj
            subst hj
            rw [if_pos (by rw [hflen]; simp [Row.len, Row.wd]; omega), ← hx]; rfl
          · rfl
        · rw [hve, hwd2]; simp [Row.len, Row.wd]; omega
        · rw [hve]; exact .cons rfl .nil
        · rw [hve]; intro u hu; simp at hu; subst hu; rfl
  · rename_i xs c s
    obtain ⟨⟨zs, fr3, fz'⟩, hin, hr⟩ := run_bind_some hr
    have := run_ret hr
    cases this
    simp only [Row.len] at hln
    have hwd2 : g.wd i = 2 := hwd
    have he : e < xs.length := by omega
    cases hve : v.cells.toList with
    | nil => rw [hve] at hv; cases hv
    | cons u0 rest =>
      rw [hve] at hv
      cases hv with
      | cons hu0 hrest =>
        cases hrest with
        | cons hu1' hr2 =>
          cases hr2
          rename_i u1
          obtain rfl := (hu1' : u1 = _)
          refine inner c zs _ _ xs rfl hin rfl rfl u0 [.string s] [.sc (.string s)] hve hu0 rfl rfl (by simp [Row.len]) ?_ ?_ (fun _ _ => .cons rfl .nil) ?_
          · rw [flat_setE _ _ _ he, hwd2, Nat.add_zero]
            exact replAt_two _ _ _ _ (by rw [hflen]; simp [Row.len, Row.wd]; omega)
          · rw [hve, hwd2]; simp [Row.len, Row.wd]; omega
          · rw [hve]; intro u hu
            simp at hu
            rcases hu with rfl | rfl
            · cases c with
              | sc v => cases hin
              | ro fr' d' => obtain ⟨A, cap, rfl, _⟩ := hu0; rfl
              | ref i' =>
                obtain ⟨h1, h2⟩ := hu0
                obtain ⟨A, l, c, e⟩ := (h.dr i' h1).2
                rw [h2, e]; rfl
            · rfl
  · cases hr
end
end Vx
