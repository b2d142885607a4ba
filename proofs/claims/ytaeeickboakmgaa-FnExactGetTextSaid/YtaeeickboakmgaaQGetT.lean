/- Plain facts about lists and numbers that the claim's proof uses. Conditions: those that each theorem states. -/
import Derived.Test.YtaeeickboakmgaaXx31
import Derived.Test.YtaeeickboakmgaaXx33
import Derived.Test.YtaeeickboakmgaaXx35
import Derived.Test.YtaeeickboakmgaaXx43
import Derived.Test.YtaeeickboakmgaaXx44
import Derived.Test.YtaeeickboakmgaaXx50
import Derived.Test.YtaeeickboakmgaaQGetS
import Derived.Test.YtaeeickboakmgaaQSolvPre
set_option linter.unusedVariables false
set_option linter.unusedSimpArgs false
namespace Go.Proofs.Ytaeeickboakmgaa.X
open Go.RowKit Go.Proofs.YtaeeickboakmgaaW.PrintWords Go.Proofs.YtaeeickboakmgaaW.PrintLast Go.Proofs.YtaeeickboakmgaaW.PrintMore

theorem getE_size {c z : Int} {es : List EqE} (h : SolverP c z es) (x : Int) : (getE es x).1.size ≤ 16 := by
  unfold getE
  cases hf : es.find? (fun e => decide (e.f0 = [x])) with
  | none => simp [ByteArray.size]
  | some e =>
    have hm := List.mem_of_find?_eq_some hf
    obtain ⟨i, hi, he⟩ := List.getElem_of_mem hm
    have h1 := (h.2.2.1 i (Nat.zero_le _) hi).2.2.1
    rw [getD_lt hi, he] at h1
    have := h.2.1.2
    show e.f1.size ≤ 16
    omega
theorem extract_all (x : ByteArray) : x.extract 0 x.size = x := by
  apply ByteArray.ext
  rw [ByteArray.data_extract]
  exact Array.extract_size
theorem text_from (L S : Int) (ws gs : List Int) (c z : Int) (es : List EqE) (hL : 0 ≤ L) (h : SolverP c z es) (hlen : es.length < 1073741824) (r : Nat) (hr : r ≤ 24) (hp : ∀ k, es.length + 26 < k → spec_l3Prefix.f k c z es = some (r : Int)) (d : Nat) : ∀ (k i : Nat) (x : ByteArray), r - i = d → i ≤ r → x.size ≤ 16 * i → es.length + 28 + d < k →
    ∃ t, spec_l6Text.l0 k x i L S ws gs c z es = some t ∧ impl_GetText.l0 k x r i L S ws gs c z es = some t := by
  induction d with
  | zero =>
    intro k i x hd hi hx hk
    obtain ⟨k, rfl, _⟩ := pos_of (show 0 < k by omega)
    simp only [spec_l6Text.l0, impl_GetText.l0]
    rw [hp k (by omega), Option.bind_some, if_neg (show ¬ (i : Int) < (r : Int) by omega), if_neg (show ¬ (i : Int) < (r : Int) by omega)]
    by_cases h1 : (x.size : Int) > L
    · rw [if_pos h1, if_pos hL, if_pos (show L ≤ (x.size : Int) by omega)]
      have e : mn (x.size : Int) L = L := by unfold mn; split <;> omega
      rw [e, if_pos hL, if_pos (show L ≤ (x.size : Int) by omega)]
      exact ⟨_, rfl, rfl⟩
    · rw [if_neg h1]
      have e : mn (x.size : Int) L = x.size := by unfold mn; split <;> omega
      rw [e, if_pos (show (0 : Int) ≤ (x.size : Int) by omega), if_pos (Int.le_refl _), Int.toNat_natCast, extract_all]
      exact ⟨_, rfl, rfl⟩
  | succ d ih =>
    intro k i x hd hi hx hk
    obtain ⟨k, rfl, _⟩ := pos_of (show 0 < k by omega)
    simp only [spec_l6Text.l0, impl_GetText.l0]
    have hs := getE_size h (i : Int)
    rw [hp k (by omega), Option.bind_some, if_pos (show (i : Int) < (r : Int) by omega), if_pos (show (i : Int) < (r : Int) by omega), spec_l3Get.eq c z i es hlen k (by omega), impl_Solver_get.eq c z i es hlen k (by omega), Option.bind_some, Option.bind_some, if_pos (show x.size + (getE es (i : Int)).1.size ≤ 9223372036854775807 by omega), if_pos (show x.size + (getE es (i : Int)).1.size ≤ 9223372036854775807 by omega), w64n (by omega)]
    exact ih k (i + 1) _ (by omega) (by omega) (by rw [ByteArray.size_append]; omega) (by omega)
theorem GetText.eq (L S : Int) (ws gs : List Int) (c z : Int) (ls : List LawE) (hw : ws.length ≤ 1048576) (hg : gs.length ≤ 1048576) (hl : ls.length ≤ 1048576) (h2 : ∀ x ∈ ls, x.f0.length < 1048577) :
    ∃ n, spec_GetText.f (bigG ws.length gs.length ls.length) L S ws gs c z (ls.map toE) = some n ∧ impl_GetText.f (bigG ws.length gs.length ls.length) L S ws gs c z (ls.map toE) = some n := by
  obtain ⟨_, _, _, _, b5⟩ := bigK_ge ls.length
  unfold spec_GetText.f impl_GetText.f
  rw [spec_GetOk.eq L S ws gs c z ls hw hg hl h2, impl_GetOk.eq L S ws gs c z ls hw hg hl h2, Option.bind_some, Option.bind_some]
  by_cases hp : GettingP L S ws gs c z (ls.map toE)
  · rw [if_pos (by simpa using hp), if_pos (by simpa using hp)]
    have hlen : (ls.map toE).length < 1073741824 := by rw [List.length_map]; omega
    have hc := hp.2.1.1
    have hL := hp.1.1
    obtain ⟨r, p1, p2, p3, p4, p5⟩ := prefix_ok c z _ hp.2.1 hlen (bigG ws.length gs.length ls.length) (by rw [List.length_map]; unfold bigG; omega)
    have hpre : ∀ k, (ls.map toE).length + 26 < k → spec_l3Prefix.f k c z (ls.map toE) = some (r : Int) := fun k hk => by
      obtain ⟨q, q2, _, q3, q4, q5⟩ := prefix_ok c z _ hp.2.1 hlen k hk
      rw [q2]
      congr 1
      have key : q = r := by
        rcases Nat.lt_trichotomy q r with hlt | heq | hgt
        · have := p4 q hlt
          rcases q5 with q5 | q5
          · omega
          · rw [q5] at this
            exact absurd this (by simp)
        · exact heq
        · have := q4 r hgt
          rcases p5 with p5 | p5
          · omega
          · rw [p5] at this
            exact absurd this (by simp)
      rw [key]
    unfold spec_l6Text.f
    rw [p2, Option.bind_some]
    obtain ⟨n, e1, e2⟩ := text_from L S ws gs c z (ls.map toE) (by omega) hp.2.1 hlen r (by omega) hpre r (bigG ws.length gs.length ls.length) 0 (⟨#[]⟩ : ByteArray) (by omega) (by omega) (by simp [ByteArray.size]) (by rw [List.length_map]; unfold bigG bigK; omega)
    have e1' : spec_l6Text.l0 (bigG ws.length gs.length ls.length) (⟨#[]⟩ : ByteArray) 0 L S ws gs c z (ls.map toE) = some n := e1
    have e2' : impl_GetText.l0 (bigG ws.length gs.length ls.length) (⟨#[]⟩ : ByteArray) (r : Int) 0 L S ws gs c z (ls.map toE) = some n := e2
    rw [e1', e2']
    exact ⟨_, rfl, rfl⟩
  · rw [if_neg (by simpa using hp), if_neg (by simpa using hp)]
    exact ⟨_, rfl, rfl⟩

end Go.Proofs.Ytaeeickboakmgaa.X
