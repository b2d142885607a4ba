/- Plain facts about lists and numbers that the claim's proof uses. Conditions: those that each theorem states. -/
import Derived.Test.YtaeeickboakmgaaXx8
import Derived.Test.YtaeeickboakmgaaXx9
import Derived.Test.YtaeeickboakmgaaXx10
import Derived.Test.YtaeeickboakmgaaXx11
import Derived.Test.YtaeeickboakmgaaXx12
import Derived.Test.YtaeeickboakmgaaXx14
import Derived.Test.YtaeeickboakmgaaXx15
import Derived.Test.YtaeeickboakmgaaXx16
import Derived.Test.YtaeeickboakmgaaXx17
import Derived.Test.YtaeeickboakmgaaXx41
import Derived.Test.YtaeeickboakmgaaXx43
import Derived.Test.YtaeeickboakmgaaXx44
import Derived.Test.YtaeeickboakmgaaQPlanS
import Derived.Test.YtaeeickboakmgaaQSolvLaw
import Derived.Test.YtaeeickboakmgaaQPlan
set_option linter.unusedVariables false
set_option linter.unusedSimpArgs false
namespace Go.Proofs.Ytaeeickboakmgaa.X
open Go.RowKit Go.Proofs.YtaeeickboakmgaaW.PrintWords Go.Proofs.YtaeeickboakmgaaW.PrintLast Go.Proofs.YtaeeickboakmgaaW.PrintMore

/-- What the laws over one client begin with. -/
theorem getting_size (L S : Int) (ws gs : List Int) (c z : Int) (ls : List LawE) (hw : ws.length ≤ maxLen) (hg : gs.length ≤ maxLen) (hl : ls.length ≤ maxLen) (hgl : ∀ x ∈ ls, goodL x) (k : Nat) (hk : ls.length < k) :
    ∃ r, laws_szGetting.f k L S ws gs c z ls 1048576 = some r ∧ (r < 0 ∨ (¬ r < 0 ∧ ws.length ≤ 1048576 ∧ gs.length ≤ 1048576 ∧ ls.length ≤ 1048576 ∧ ∀ x ∈ ls, x.f0.length < 1048577)) := by
  unfold laws_szGetting.f
  obtain ⟨p, e, hp⟩ := laws_szPlan.ok L S ws gs 1048576 (by decide) (by decide) hw hg
  rw [e, Option.bind_some]
  by_cases h : p < 0
  · rw [if_pos h]
    exact ⟨_, rfl, .inl (by omega)⟩
  · have hp' := hp.resolve_left h
    rw [if_neg h]
    obtain ⟨q, e2, hq⟩ := laws_szSolver.ok c z ls p (by omega) (by omega) hl hgl k hk
    rw [e2, Option.bind_some]
    by_cases h2 : q < 0
    · rw [if_pos h2]
      exact ⟨_, rfl, .inl (by omega)⟩
    · rw [if_neg h2]
      obtain ⟨_, h4, h5, h6⟩ := hq.resolve_left h2
      refine ⟨_, rfl, .inr ⟨h2, by omega, by omega, by omega, fun x hx => ?_⟩⟩
      have := h6 x hx
      omega
def bigG (n1 n2 n : Nat) : Nat := bigK n + n1 + n2 + 100
theorem laws_toGetting.eq (L S : Int) (ws gs : List Int) (c z : Int) (ls : List LawE) (hw : ws.length ≤ 1048576) (hg : gs.length ≤ 1048576) (hl : ls.length ≤ 1048576) (h2 : ∀ x ∈ ls, x.f0.length < 1048577) :
    laws_toGetting.f (bigG ws.length gs.length ls.length) L S ws gs c z ls = some (L, S, ws, gs, c, z, ls.map toE) := by
  obtain ⟨b1, b2, b3, b4, _⟩ := bigK_ge ls.length
  unfold laws_toGetting.f
  rw [laws_toPlan.eq L S ws gs _ hw hg (by unfold bigG; omega), Option.bind_some, laws_toSolver.eq c z ls hl 1048577 h2 (by omega) _ (by unfold bigG; omega)]
  rfl
theorem laws_eqGetting.refl (L S : Int) (ws gs : List Int) (c z : Int) (ls : List LawE) (hw : ws.length ≤ 1048576) (hg : gs.length ≤ 1048576) (hl : ls.length ≤ 1048576) (h2 : ∀ x ∈ ls, x.f0.length < 1048577) :
    laws_eqGetting.f (bigG ws.length gs.length ls.length) L S ws gs c z (ls.map toE) L S ws gs c z (ls.map toE) = some true := by
  obtain ⟨b1, b2, b3, b4, _⟩ := bigK_ge ls.length
  unfold laws_eqGetting.f
  rw [laws_eqPlan.refl L S ws gs _ hw hg (by unfold bigG; omega), Option.bind_some, if_pos rfl, laws_eqSolver.refl c z (ls.map toE) (by rw [List.length_map]; omega) 1048577 (map_len h2) (by omega) _ (by rw [List.length_map]; unfold bigG; omega)]
  rfl
/-- A client in order. -/
def GettingP (L S : Int) (ws gs : List Int) (c z : Int) (es : List EqE) : Prop := PlanP L S ws gs ∧ SolverP c z es ∧ c = cntP L S ∧ z = S
open Classical in
noncomputable instance (L S : Int) (ws gs : List Int) (c z : Int) (es : List EqE) : Decidable (GettingP L S ws gs c z es) := inferInstance
theorem spec_GetOk.eq (L S : Int) (ws gs : List Int) (c z : Int) (ls : List LawE) (hw : ws.length ≤ 1048576) (hg : gs.length ≤ 1048576) (hl : ls.length ≤ 1048576) (h2 : ∀ x ∈ ls, x.f0.length < 1048577) :
    spec_GetOk.f (bigG ws.length gs.length ls.length) L S ws gs c z (ls.map toE) = some (decide (GettingP L S ws gs c z (ls.map toE))) := by
  obtain ⟨b1, b2, b3, b4, _⟩ := bigK_ge ls.length
  unfold spec_GetOk.f
  have hb : bigG ws.length gs.length ls.length = bigK ls.length + ws.length + gs.length + 100 := rfl
  rw [spec_PlanOk.eq L S ws gs (by omega) (by omega) _ (by omega), Option.bind_some]
  by_cases hp : PlanP L S ws gs
  rotate_left
  · rw [if_neg (by simpa using hp)]
    exact congrArg some (decide_eq_false (fun h => hp h.1)).symm
  rw [if_pos (by simpa using hp), spec_SolverOk.eq c z (ls.map toE) (by rw [List.length_map]; omega) 1048577 (map_len h2) (by omega) _ (by rw [List.length_map]; omega), Option.bind_some]
  by_cases hs : SolverP c z (ls.map toE)
  rotate_left
  · rw [if_neg (by simpa using hs)]
    exact congrArg some (decide_eq_false (fun h => hs h.2.1)).symm
  rw [if_pos (by simpa using hs), spec_l5Count.eq L S ws gs hp.1 hp.2.1, Option.bind_some]
  by_cases hc : c = cntP L S
  · rw [if_pos hc]
    refine congrArg some (bool_eq ?_)
    rw [beq_iff_eq, decide_eq_true_iff]
    exact ⟨fun h => ⟨hp, hs, hc, h⟩, fun h => h.2.2.2⟩
  · rw [if_neg hc]
    exact congrArg some (decide_eq_false (fun h => hc h.2.2.1)).symm
theorem impl_GetOk.eq (L S : Int) (ws gs : List Int) (c z : Int) (ls : List LawE) (hw : ws.length ≤ 1048576) (hg : gs.length ≤ 1048576) (hl : ls.length ≤ 1048576) (h2 : ∀ x ∈ ls, x.f0.length < 1048577) :
    impl_GetOk.f (bigG ws.length gs.length ls.length) L S ws gs c z (ls.map toE) = some (decide (GettingP L S ws gs c z (ls.map toE))) := by
  obtain ⟨b1, b2, b3, b4, _⟩ := bigK_ge ls.length
  unfold impl_GetOk.f
  have hb : bigG ws.length gs.length ls.length = bigK ls.length + ws.length + gs.length + 100 := rfl
  rw [impl_PlanOk.eq L S ws gs (by omega) (by omega) _ (by omega), Option.bind_some]
  by_cases hp : PlanP L S ws gs
  rotate_left
  · rw [if_neg (by simpa using hp)]
    exact congrArg some (decide_eq_false (fun h => hp h.1)).symm
  rw [if_pos (by simpa using hp), impl_SolverOk.eq c z (ls.map toE) (by rw [List.length_map]; omega) 1048577 (map_len h2) (by omega) _ (by rw [List.length_map]; omega), Option.bind_some]
  by_cases hs : SolverP c z (ls.map toE)
  rotate_left
  · rw [if_neg (by simpa using hs)]
    exact congrArg some (decide_eq_false (fun h => hs h.2.1)).symm
  rw [if_pos (by simpa using hs), impl_Plan_count.eq L S ws gs hp.1 hp.2.1, Option.bind_some]
  by_cases hc : c = cntP L S
  · rw [if_pos hc]
    refine congrArg some (bool_eq ?_)
    rw [beq_iff_eq, decide_eq_true_iff]
    exact ⟨fun h => ⟨hp, hs, hc, h⟩, fun h => h.2.2.2⟩
  · rw [if_neg hc]
    exact congrArg some (decide_eq_false (fun h => hc h.2.2.1)).symm

end Go.Proofs.Ytaeeickboakmgaa.X
