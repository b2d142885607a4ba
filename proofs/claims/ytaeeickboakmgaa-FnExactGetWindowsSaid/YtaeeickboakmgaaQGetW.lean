/- Plain facts about lists and numbers that the claim's proof uses. Conditions: those that each theorem states. -/
import Derived.Test.YtaeeickboakmgaaXx37
import Derived.Test.YtaeeickboakmgaaXx43
import Derived.Test.YtaeeickboakmgaaXx44
import Derived.Test.YtaeeickboakmgaaXx48
import Derived.Test.YtaeeickboakmgaaQGetS
import Derived.Test.YtaeeickboakmgaaQSolvPre
set_option linter.unusedVariables false
set_option linter.unusedSimpArgs false
namespace Go.Proofs.Ytaeeickboakmgaa.X
open Go.RowKit Go.Proofs.YtaeeickboakmgaaW.PrintWords Go.Proofs.YtaeeickboakmgaaW.PrintLast Go.Proofs.YtaeeickboakmgaaW.PrintMore

theorem windows_from (L S : Int) (ws gs : List Int) (c z : Int) (es : List EqE) (r : Nat) (hw : ws.length ≤ 1048576) (N : Nat) (hp : ∀ k, N < k → impl_Solver_prefix.f k c z es = some (r : Int)) (d : Nat) : ∀ (k i : Nat), ws.length - i = d → i ≤ ws.length → N + d + 1 < k →
    ∃ n, spec_l6Windows.l0 k i r L S ws gs c z es = some n ∧ impl_Getting_windows.l0 k i L S ws gs c z es = some n := by
  induction d with
  | zero =>
    intro k i hd hi hk
    obtain ⟨k, rfl, _⟩ := pos_of (show 0 < k by omega)
    simp only [spec_l6Windows.l0, impl_Getting_windows.l0]
    rw [if_neg (by omega), if_neg (by omega)]
    exact ⟨_, rfl, rfl⟩
  | succ d ih =>
    intro k i hd hi hk
    obtain ⟨k, rfl, _⟩ := pos_of (show 0 < k by omega)
    simp only [spec_l6Windows.l0, impl_Getting_windows.l0]
    rw [if_pos (show (i : Int) < (ws.length : Int) by omega), if_pos (show (i : Int) < (ws.length : Int) by omega), if_pos (show (0 : Int) ≤ (i : Int) by omega), if_pos (show (0 : Int) ≤ (i : Int) by omega), hp k (by omega), Option.bind_some, w64n (by omega)]
    by_cases h : rd ws (i : Int) ≤ (r : Int)
    · rw [if_pos h, if_pos h]
      exact ih k (i + 1) (by omega) (by omega) (by omega)
    · rw [if_neg h, if_neg h]
      exact ⟨_, rfl, rfl⟩
theorem GetWindows.eq (L S : Int) (ws gs : List Int) (c z : Int) (ls : List LawE) (hw : ws.length ≤ 1048576) (hg : gs.length ≤ 1048576) (hl : ls.length ≤ 1048576) (h2 : ∀ x ∈ ls, x.f0.length < 1048577) :
    ∃ n, spec_GetWindows.f (bigG ws.length gs.length ls.length) L S ws gs c z (ls.map toE) = some n ∧ impl_GetWindows.f (bigG ws.length gs.length ls.length) L S ws gs c z (ls.map toE) = some n := by
  obtain ⟨_, _, _, _, b5⟩ := bigK_ge ls.length
  unfold spec_GetWindows.f impl_GetWindows.f
  rw [spec_GetOk.eq L S ws gs c z ls hw hg hl h2, impl_GetOk.eq L S ws gs c z ls hw hg hl h2, Option.bind_some, Option.bind_some]
  by_cases hp : GettingP L S ws gs c z (ls.map toE)
  · rw [if_pos (by simpa using hp), if_pos (by simpa using hp)]
    have hlen : (ls.map toE).length < 1073741824 := by rw [List.length_map]; omega
    obtain ⟨r, p1, p2, p3, p4, p5⟩ := prefix_ok c z _ hp.2.1 hlen (bigG ws.length gs.length ls.length) (by rw [List.length_map]; unfold bigG; omega)
    have hpre : ∀ k, (ls.map toE).length + 26 < k → impl_Solver_prefix.f k c z (ls.map toE) = some (r : Int) := fun k hk => by
      obtain ⟨q, _, q2, q3, q4, q5⟩ := prefix_ok c z _ hp.2.1 hlen k hk
      rw [q2]
      congr 1
      have key : q = r := by
        rcases Nat.lt_trichotomy q r with hlt | heq | hgt
        · have := p4 q hlt
          rcases q5 with q5 | q5
          · omega
          · rw [q5] at this
            exact absurd this (by simp)
        · exact heq
        · have := q4 r hgt
          rcases p5 with p5 | p5
          · omega
          · rw [p5] at this
            exact absurd this (by simp)
      rw [key]
    unfold spec_l6Windows.f impl_Getting_windows.f
    rw [p1, Option.bind_some]
    obtain ⟨n, e1, e2⟩ := windows_from L S ws gs c z (ls.map toE) r hw _ hpre ws.length (bigG ws.length gs.length ls.length) 0 (by omega) (by omega) (by rw [List.length_map]; unfold bigG bigK; omega)
    have e1' : spec_l6Windows.l0 (bigG ws.length gs.length ls.length) 0 (r : Int) L S ws gs c z (ls.map toE) = some n := e1
    have e2' : impl_Getting_windows.l0 (bigG ws.length gs.length ls.length) 0 L S ws gs c z (ls.map toE) = some n := e2
    rw [e1', e2']
    exact ⟨_, rfl, rfl⟩
  · rw [if_neg (by simpa using hp), if_neg (by simpa using hp)]
    exact ⟨_, rfl, rfl⟩

end Go.Proofs.Ytaeeickboakmgaa.X
