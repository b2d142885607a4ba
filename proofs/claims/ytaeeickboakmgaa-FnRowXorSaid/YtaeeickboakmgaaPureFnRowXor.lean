/- The statement FnRowXor over numbers and lists alone: its function answers true. Conditions: those of its statement. -/
import Derived.Test.YtaeeickboakmgaaXx1
import Derived.Test.YtaeeickboakmgaaXx2
import Derived.Test.YtaeeickboakmgaaXx3
import Derived.Test.YtaeeickboakmgaaXx5
import Derived.Test.YtaeeickboakmgaaXx6
import Derived.Test.YtaeeickboakmgaaQDrawRow
import Derived.Test.YtaeeickboakmgaaQRowX
import Derived.Test.YtaeeickboakmgaaQWhS
set_option linter.unusedVariables false
set_option linter.unusedSimpArgs false
namespace Go.Proofs.Ytaeeickboakmgaa.Pure
open Go.Proofs.Ytaeeickboakmgaa.X
open Go.RowKit Go.Proofs.YtaeeickboakmgaaW.PrintWords Go.Proofs.YtaeeickboakmgaaW.PrintLast Go.Proofs.YtaeeickboakmgaaW.PrintMore

theorem drawn_rows (l : List Int) (h : ∀ x ∈ l, (Lit.int .u8 x).wf = true) (k : Nat) (hk : 1002 < k) : ∃ a b : List Int, spec_DrawRowXor.f k l = some (a, b) ∧ a.length ≤ 100 ∧ b.length ≤ 100 := by
  have hb := Bytes.open h
  unfold spec_DrawRowXor.f
  rw [spec_l1Open.eq, Option.bind_some]
  obtain ⟨a, e, ha⟩ := spec_l15BadRow.ok _ hb 24 (by omega) (by omega) 0 (by omega) (by omega) k hk
  rw [e, Option.bind_some]
  obtain ⟨v, e2, h1, h2⟩ := draws _ hb (0 + 24 + 1) 24 (by omega) (by omega) (by omega) k (by omega)
  rw [e2, Option.bind_some, w64 (by omega) (by omega)]
  obtain ⟨c, e3, hc⟩ := spec_l15BadRow.ok _ hb (1 + v) (by omega) (by omega) (0 + 24 + 1 + 1) (by omega) (by omega) k hk
  rw [e3]
  exact ⟨a, c, rfl, by omega, by omega⟩
theorem laws_whHas.from_ (l : List Int) (n : Int) (hl : l.length < 9223372036854775807) (d : Nat) : ∀ (k i : Nat), l.length - i = d → i ≤ l.length → d < k →
    ∃ b, laws_whHas.l0 k l n i = some b ∧ (b = true ↔ n ∈ l.drop i) := by
  induction d with
  | zero =>
    intro k i hd hi hk
    obtain ⟨k, rfl, _⟩ := pos_of hk
    simp only [laws_whHas.l0]
    rw [if_neg (by omega), List.drop_eq_nil_of_le (by omega)]
    exact ⟨_, rfl, by simp⟩
  | succ d ih =>
    intro k i hd hi hk
    obtain ⟨k, rfl, hk'⟩ := pos_of hk
    have hlt : i < l.length := by omega
    simp only [laws_whHas.l0]
    rw [if_pos (by omega), if_pos (by omega), rd_lt hlt, List.drop_eq_getElem_cons hlt, w64n (by omega)]
    by_cases h : l[i] = n
    · rw [if_pos h]
      exact ⟨_, rfl, by simp [h]⟩
    · rw [if_neg h]
      obtain ⟨b, hb, hb2⟩ := ih k (i + 1) (by omega) (by omega) (by omega)
      refine ⟨b, hb, hb2.trans ?_⟩
      rw [List.mem_cons]
      exact ⟨fun h2 => .inr h2, fun h2 => h2.resolve_left (fun h3 => h h3.symm)⟩
theorem laws_whHas.eq (l : List Int) (n : Int) (hl : l.length < 9223372036854775807) (k : Nat) (hk : l.length < k) : laws_whHas.f k l n = some (decide (n ∈ l)) := by
  obtain ⟨b, hb, hb2⟩ := laws_whHas.from_ l n hl l.length k 0 (by omega) (by omega) hk
  unfold laws_whHas.f
  refine Eq.trans hb (congrArg some (bool_eq ?_))
  rw [hb2, decide_eq_true_iff, List.drop_zero]
theorem xorP {a b : List Int} (ha : RowP a 24) (hb : RowP b 24) : RowP (xorL a b) 24 := ⟨by omega, by omega, (xorL_mem a b ha.2.2.1 hb.2.2.1).2, xorL_in a b ha.2.2.1 hb.2.2.1 24 ha.2.2.2 hb.2.2.2⟩
theorem rowP_len {a : List Int} (h : RowP a 24) : a.length ≤ 24 := asc_length a h.2.2.1 24 h.2.2.2
theorem xor_back {a b : List Int} (ha : RowP a 24) (hb : RowP b 24) : xorL (xorL a b) b = a := by
  have hx := xorP ha hb
  have h1 := xorL_mem a b ha.2.2.1 hb.2.2.1
  have h2 := xorL_mem (xorL a b) b hx.2.2.1 hb.2.2.1
  refine asc_ext h2.2 ha.2.2.1 fun z => ?_
  rw [h2.1, h1.1]
  by_cases p : z ∈ a <;> by_cases q : z ∈ b <;> simp [p, q]
theorem xor_comm_ {a b : List Int} (ha : RowP a 24) (hb : RowP b 24) : xorL b a = xorL a b := by
  have h1 := xorL_mem a b ha.2.2.1 hb.2.2.1
  have h2 := xorL_mem b a hb.2.2.1 ha.2.2.1
  refine asc_ext h2.2 h1.2 fun z => ?_
  rw [h2.1, h1.1]
  by_cases p : z ∈ a <;> by_cases q : z ∈ b <;> simp [p, q]
theorem FnRowXor.loop (a b : List Int) (ha : RowP a 24) (hb : RowP b 24) (d : Nat) : ∀ (k i : Nat), 24 - i = d → i ≤ 24 → d + 400 < k → laws_FnRowXor.l0 k a b (xorL a b) i = some true := by
  have hx := xorP ha hb
  have la := rowP_len ha
  have lb := rowP_len hb
  have lx := rowP_len hx
  induction d with
  | zero =>
    intro k i hd hi hk
    obtain ⟨k, rfl, _⟩ := pos_of (show 0 < k by omega)
    simp only [laws_FnRowXor.l0]
    rw [if_neg (by omega), impl_RowOk.eq _ _ (by omega) _ (by omega), Option.bind_some, if_pos (decide_eq_true hx), impl_RowXor.eq _ _ (by omega) (by omega) _ (by omega), if_pos ⟨hx, hb⟩, xor_back ha hb, Option.bind_some, laws_whInts.eq _ _ (by omega) _ (by omega), Option.bind_some, if_pos (by simp), impl_RowXor.eq _ _ (by omega) (by omega) _ (by omega), if_pos ⟨hb, ha⟩, xor_comm_ ha hb, Option.bind_some, laws_whInts.eq _ _ (by omega) _ (by omega), Option.bind_some]
    simp
  | succ d ih =>
    intro k i hd hi hk
    obtain ⟨k, rfl, _⟩ := pos_of (show 0 < k by omega)
    simp only [laws_FnRowXor.l0]
    rw [if_pos (by omega), laws_whHas.eq _ _ (by omega) _ (by omega), Option.bind_some, laws_whHas.eq _ _ (by omega) _ (by omega), Option.bind_some, laws_whHas.eq _ _ (by omega) _ (by omega), Option.bind_some, w64n (by omega)]
    have h1 := (xorL_mem a b ha.2.2.1 hb.2.2.1).1 (i : Int)
    rw [if_neg]
    · exact ih k (i + 1) (by omega) (by omega) (by omega)
    · by_cases p : (i : Int) ∈ a <;> by_cases q : (i : Int) ∈ b <;> simp [h1, p, q]
theorem FnRowXor : laws_FnRowXor.Pure := by
  intro l _ _ hl
  refine ⟨3000, ?_⟩
  unfold laws_FnRowXor.f
  by_cases h1 : (l.length : Int) > 1048576
  · rw [if_pos h1]
  rw [if_neg h1]
  obtain ⟨a, b, e, ha, hb⟩ := drawn_rows l hl 3000 (by omega)
  have xl : (if RowP a 24 ∧ RowP b 24 then xorL a b else []).length ≤ 24 := by
    by_cases h : RowP a 24 ∧ RowP b 24
    · rw [if_pos h]
      exact rowP_len (xorP h.1 h.2)
    · rw [if_neg h]
      simp
  have e1 := impl_RowXor.eq a b (by omega) (by omega) 3000 (by omega)
  have e2 := spec_RowXor.eq a b (by omega) (by omega) 3000 (by omega)
  have e3 := spec_RowXor.eq a b (by omega) (by omega) 2999 (by omega)
  have j : laws_FnRowXor.j0 3000 a b (if RowP a 24 ∧ RowP b 24 then xorL a b else []) true = some true := by
    simp only [laws_FnRowXor.j0, if_true]
    rw [e3, Option.bind_some, laws_whInts.eq _ _ (by omega) _ (by omega)]
    simp
  rw [e]
  simp only [Option.bind_some]
  rw [e1]
  simp only [Option.bind_some]
  rw [e2]
  simp only [Option.bind_some]
  rw [laws_whInts.eq _ _ (by omega) _ (by omega)]
  simp only [Option.bind_some, decide_true, if_true, impl_RowOk.eq a 24 (by omega) 3000 (by omega), spec_RowOk.eq a 24 (by omega) 3000 (by omega), spec_RowOk.eq b 24 (by omega) 3000 (by omega), bne_self_eq_false, Bool.false_eq_true, if_false]
  by_cases pa : RowP a 24
  · by_cases pb : RowP b 24
    · simp only [decide_eq_true pa, decide_eq_true pb, if_true, Bool.not_true]
      simp only [laws_FnRowXor.j0, Bool.false_eq_true, if_false]
      rw [if_pos ⟨pa, pb⟩]
      exact FnRowXor.loop a b pa pb 24 2999 0 (by omega) (by omega) (by omega)
    · simp only [decide_eq_true pa, decide_eq_false pb, if_true, Bool.not_false]
      exact j
  · simp only [decide_eq_false pa, Bool.false_eq_true, if_false]
    exact j

end Go.Proofs.Ytaeeickboakmgaa.Pure
