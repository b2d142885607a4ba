/- The statement FnExactGetWindows over numbers and lists alone: its function answers true. Conditions: those of its statement. -/
import Derived.Test.YtaeeickboakmgaaXx41
import Derived.Test.YtaeeickboakmgaaXx43
import Derived.Test.YtaeeickboakmgaaXx49
import Derived.Test.YtaeeickboakmgaaQGetW
set_option linter.unusedVariables false
set_option linter.unusedSimpArgs false
namespace Go.Proofs.Ytaeeickboakmgaa.Pure
open Go.Proofs.Ytaeeickboakmgaa.X
open Go.RowKit Go.Proofs.YtaeeickboakmgaaW.PrintWords Go.Proofs.YtaeeickboakmgaaW.PrintLast Go.Proofs.YtaeeickboakmgaaW.PrintMore

theorem FnExactGetWindows (L S : Int) (ws gs : List Int) (c z : Int) (ls : List LawE) (_ : (Lit.int .i64 L).wf = true) (_ : (Lit.int .i64 S).wf = true) (hw : ws.length ≤ maxLen ∧ ∀ x ∈ ws, (Lit.int .i64 x).wf = true) (hg : gs.length ≤ maxLen ∧ ∀ x ∈ gs, (Lit.int .i64 x).wf = true) (_ : (Lit.int .i64 c).wf = true) (_ : (Lit.int .i64 z).wf = true) (hl : ls.length ≤ maxLen ∧ ∀ x ∈ ls, goodL x) : ∃ k, laws_FnExactGetWindows.f k L S ws gs c z ls = some true := by
  refine ⟨bigG ws.length gs.length ls.length, ?_⟩
  unfold laws_FnExactGetWindows.f
  obtain ⟨r, e, hr⟩ := getting_size L S ws gs c z ls hw.1 hg.1 hl.1 hl.2 (bigG ws.length gs.length ls.length) (by obtain ⟨_, _, _, b4, _⟩ := bigK_ge ls.length; unfold bigG; omega)
  rw [e, Option.bind_some]
  rcases hr with h | ⟨h, h1, h2, h3, h4⟩
  · rw [if_pos h]
  · rw [if_neg h]
    obtain ⟨b, p, q⟩ := GetWindows.eq L S ws gs c z ls h1 h2 h3 h4
    simp only [laws_toGetting.eq L S ws gs c z ls h1 h2 h3 h4, p, q, laws_eqGetting.refl L S ws gs c z ls h1 h2 h3 h4, Option.bind_some, bne_self_eq_false, Bool.false_eq_true, if_false, if_true]

end Go.Proofs.Ytaeeickboakmgaa.Pure
