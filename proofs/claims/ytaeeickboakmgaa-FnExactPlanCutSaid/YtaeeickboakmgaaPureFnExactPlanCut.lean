/- The statement FnExactPlanCut over numbers and lists alone: its function answers true. Conditions: those of its statement. -/
import Derived.Test.YtaeeickboakmgaaXx14
import Derived.Test.YtaeeickboakmgaaXx15
import Derived.Test.YtaeeickboakmgaaXx16
import Derived.Test.YtaeeickboakmgaaXx17
import Derived.Test.YtaeeickboakmgaaXx18
import Derived.Test.YtaeeickboakmgaaXx19
import Derived.Test.YtaeeickboakmgaaXx20
import Derived.Test.YtaeeickboakmgaaXx21
import Derived.Test.YtaeeickboakmgaaQCut
import Derived.Test.YtaeeickboakmgaaQPlanS
import Derived.Test.YtaeeickboakmgaaQMarkPlan
import Derived.Test.YtaeeickboakmgaaQMarkT
import Derived.Test.YtaeeickboakmgaaQStrE
set_option linter.unusedVariables false
set_option linter.unusedSimpArgs false
namespace Go.Proofs.Ytaeeickboakmgaa.Pure
open Go.Proofs.Ytaeeickboakmgaa.X
open Go.RowKit Go.Proofs.YtaeeickboakmgaaW.PrintWords Go.Proofs.YtaeeickboakmgaaW.PrintLast Go.Proofs.YtaeeickboakmgaaW.PrintMore

theorem cut_same (L S : Int) (ws gs : List Int) (t : ByteArray) (k : Nat) (hw : ws.length ≤ 1048576) (hg : gs.length ≤ 1048576) (ht : t.size ≤ 1048576) (hk : ws.length + 1000 < k) :
    ∃ bs : List ByteArray, bs.length ≤ 24 ∧ spec_PlanCut.f k L S ws gs t = some bs ∧ impl_PlanCut.f k L S ws gs t = some bs := by
  obtain ⟨k, rfl, _⟩ := pos_of (show 0 < k by omega)
  unfold spec_PlanCut.f impl_PlanCut.f
  have no : impl_PlanCut.j0 (k + 1) t ([] : List ByteArray) true L S ws gs = some [] := by simp only [impl_PlanCut.j0, if_true]
  rw [spec_PlanOk.eq L S ws gs (by omega) (by omega) (k + 1) (by omega), Option.bind_some, Option.bind_some, impl_PlanOk.eq L S ws gs (by omega) (by omega) (k + 1) (by omega), Option.bind_some]
  by_cases hp : PlanP L S ws gs
  · rw [if_pos (decide_eq_true hp), if_pos (decide_eq_true hp)]
    by_cases hs : (t.size : Int) = L
    · have hL := hp.1
      have hS := hp.2.1
      have hb := cnt_bounds hL hS
      have hc := cntP_pos hL hS
      have hc2 := hp.2.2.1
      have eS : ((S.toNat : Nat) : Int) = S := Int.toNat_of_nonneg (by omega)
      have eC : (((cntP L S).toNat : Nat) : Int) = cntP L S := Int.toNat_of_nonneg (by omega)
      have e1 : wrap64 (cntP L S * S) = cntP L S * S := w64 (by omega) (by omega)
      have e2 : wrap64 (cntP L S * S - L) = cntP L S * S - L := w64 (by omega) (by omega)
      have e3 : ((t.size : Int) != L) = false := by rw [hs, bne_self_eq_false]
      have hsz : (t ++ zerosB (cntP L S * S - L).toNat).size = (cntP L S).toNat * S.toNat := by
        rw [ByteArray.size_append, zerosB_size]
        have : (((cntP L S).toNat * S.toNat : Nat) : Int) = cntP L S * S := by rw [Int.natCast_mul, eS, eC]
        omega
      have z1 : spec_l3Zero.f (k + 1) (cntP L S * S - L) = some (zerosB (cntP L S * S - L).toNat) := by
        unfold spec_l3Zero.f
        rw [spec_l1Many.zero _ (by omega) (by omega) (k + 1) (by omega)]
        rfl
      have q1 := spec_l5Cut.from_ L S.toNat ws gs hL (by omega) (cntP L S).toNat (by rw [eS, eC]) (by omega) _ hsz (cntP L S).toNat (k + 1) 0 (by omega) (by omega) (by omega)
      have q2 := impl_PlanCut.from_ L S.toNat ws gs (by omega) (cntP L S).toNat (by omega) _ hsz (cntP L S).toNat k 0 (by omega) (by omega) (by omega)
      rw [eS] at q1 q2
      have q1' : spec_l5Cut.l0 (k + 1) (t ++ zerosB (cntP L S * S - L).toNat) ([] : List ByteArray) 0 L S ws gs = some (pieces (t ++ zerosB (cntP L S * S - L).toNat) S.toNat (cntP L S).toNat) := q1
      have q2' : impl_PlanCut.l0 k (t ++ zerosB (cntP L S * S - L).toNat) ([] : List ByteArray) 0 L S ws gs = some (pieces (t ++ zerosB (cntP L S * S - L).toNat) S.toNat (cntP L S).toNat) := by
        have : ((0 * S.toNat : Nat) : Int) = 0 := by omega
        rw [this] at q2
        exact q2
      refine ⟨pieces (t ++ zerosB (cntP L S * S - L).toNat) S.toNat (cntP L S).toNat, by rw [pieces_length]; omega, ?_, ?_⟩
      · rw [if_pos hs]
        unfold spec_l5Cut.f
        rw [spec_l5Count.eq L S ws gs hL hS, Option.bind_some, e1, hs, e2, z1, Option.bind_some, if_pos (by rw [zerosB_size]; omega), q1']
        rfl
      · rw [e3]
        simp only [impl_PlanCut.j0, Bool.false_eq_true, if_false]
        rw [impl_Plan_count.eq L S ws gs hL hS, Option.bind_some, e1, e2, impl_zeros.eq _ (by omega) (by omega), Option.bind_some, if_pos (by rw [zerosB_size]; omega), q2']
    · have e3 : ((t.size : Int) != L) = true := by simpa using hs
      rw [if_neg hs, e3, no]
      exact ⟨[], by simp, rfl, rfl⟩
  · rw [if_neg (by simpa using hp), if_neg (by simpa using hp), no]
    exact ⟨[], by simp, rfl, rfl⟩
theorem cut_mono (L S : Int) (ws gs : List Int) (t : ByteArray) (k : Nat) {a b : List ByteArray} (h1 : impl_PlanCut.f k L S ws gs t = some a) (h2 : impl_PlanCut.f (k + 1) L S ws gs t = some b) : impl_PlanCut.f k L S ws gs t = some b := by
  have := impl_PlanCut.mono L S ws gs t k _ h1
  rw [h2] at this
  rw [h1, Option.some.inj this]
theorem FnExactPlanCut (L S : Int) (ws gs : List Int) (t : ByteArray) (_ : (Lit.int .i64 L).wf = true) (_ : (Lit.int .i64 S).wf = true) (hw : ws.length ≤ maxLen ∧ ∀ x ∈ ws, (Lit.int .i64 x).wf = true) (hg : gs.length ≤ maxLen ∧ ∀ x ∈ gs, (Lit.int .i64 x).wf = true) (_ : t.size ≤ maxLen) : ∃ k, laws_FnExactPlanCut.f k L S ws gs t = some true := by
  refine ⟨ws.length + gs.length + 200000 + 1, ?_⟩
  unfold laws_FnExactPlanCut.f
  by_cases ht : (t.size : Int) > 1048576
  · rw [if_pos ht]
  rw [if_neg ht]
  obtain ⟨r, e, hr⟩ := laws_szPlan.ok L S ws gs 1048576 (by decide) (by decide) hw.1 hg.1
  rw [e, Option.bind_some]
  by_cases h : r < 0
  · rw [if_pos h]
  · have hr' := hr.resolve_left h
    rw [if_neg h]
    have hw1 : ws.length ≤ 1048576 := by omega
    have hg1 : gs.length ≤ 1048576 := by omega
    have hto : ∀ k, ws.length + gs.length < k → laws_toPlan.f k L S ws gs = some (L, S, ws, gs) := fun k hk => laws_toPlan.eq L S ws gs k hw1 hg1 hk
    obtain ⟨bs, hb, c1, c2⟩ := cut_same L S ws gs t (ws.length + gs.length + 200000 + 1) hw1 hg1 (by omega) (by omega)
    obtain ⟨bs', _, _, c3⟩ := cut_same L S ws gs t (ws.length + gs.length + 200000) hw1 hg1 (by omega) (by omega)
    have c4 := cut_mono L S ws gs t _ c3 c2
    simp only [hto (ws.length + gs.length + 200000 + 1) (by omega), c1, c2, Option.bind_some, laws_eqStringS.refl bs (by omega) (ws.length + gs.length + 200000 + 1) (by omega), if_true, laws_eqPlan.refl L S ws gs (ws.length + gs.length + 200000 + 1) hw1 hg1 (by omega), laws_markPlan.eq L S ws gs 1 (by omega) (by omega) (ws.length + gs.length + 200000 + 1) (by omega)]
    rw [if_neg (by omega)]
    simp only [laws_FnExactPlanCut.j0, Bool.not_true, Bool.false_eq_true, if_false]
    simp only [laws_markStringS.eq bs 1 (by omega) (by omega) (ws.length + gs.length + 200000) (by omega), laws_heldStringS.eq bs.length 1 (by omega) (by omega) (ws.length + gs.length + 200000) (by omega), hto (ws.length + gs.length + 200000) (by omega), c4, laws_eqStringS.refl bs (by omega) (ws.length + gs.length + 200000) (by omega), Option.bind_some, if_true]
    rw [if_neg (by omega), if_neg (by omega)]

end Go.Proofs.Ytaeeickboakmgaa.Pure
