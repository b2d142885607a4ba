/- What functions come to, and that they do so; conditions: those that each theorem states. -/
import Derived.Test.YtbolcmcjniiieaaDgk1G
import Derived.Lib.BufferMore
import Derived.WalkKit
import Derived.ProofKit
import Derived.Handy
import Derived.WalkSpells
set_option linter.unusedVariables false
set_option linter.unusedSimpArgs false
namespace Go.Proofs.Ytbolcmcjniiieaa.V
open Go Vx Vx.N
/-! ### Numbers in turn: held -/
theorem upL_len : ∀ (n : Nat) (k : Int), (upL k n).length = n
  | 0, _ => rfl
  | n + 1, k => by rw [upL, List.length_cons, upL_len n]
theorem heldV_nil (k : Int) : heldV [] k = k := by unfold heldV; rw [decide_eq_true (show ([] : List Int) = upL k ([] : List Int).length from rfl)]; simp
theorem heldV_cons (x k : Int) (l : List Int) (hk : 0 ≤ k) : heldV (x :: l) k = if x = k then (heldV l (k + 1)) else -1 := by
  unfold heldV
  rw [List.length_cons, upL]
  by_cases h : x = k
  · subst h
    rw [if_pos rfl]
    by_cases h2 : l = upL (x + 1) l.length
    · rw [decide_eq_true h2, decide_eq_true (by rw [← h2])]
      show x + ((l.length + 1 : Nat) : Int) = x + 1 + (l.length : Int)
      omega
    · rw [decide_eq_false h2, decide_eq_false fun e => h2 (List.cons.inj e).2]
  · rw [if_neg h, decide_eq_false fun e => h (List.cons.inj e).1]
theorem K_laws_heldIntS : Sound1 Try.prog EKs F_laws_heldIntS.f S_laws_heldIntS := snd ok_laws_heldIntS [] (tabF_nil _ _) fun args sp h hp => by
  unfold S_laws_heldIntS at h
  split at h
  · rename_i a k
    cases h
    have hp : (sm a.length && decide (0 ≤ k ∧ k < 10000000000)) = true := hp
    rw [Bool.and_eq_true] at hp
    have hl : a.length < 1000000000 := of_decide_eq_true hp.1
    obtain ⟨k0, k1⟩ := of_decide_eq_true hp.2
    refine ⟨rfl, a.length + 1, (laws_heldIntS_run _ _ _).trans ?_⟩
    unfold laws_heldIntS_T
    refine (fix3 (T := fun k => laws_heldIntS_T2 k) (fun i m a' => a' = a ∧ (0 ≤ i ∧ i ≤ a.length) ∧ m = k + i) (fun i _ _ => a.length - i.toNat) (fun i m _ => ([I (heldV (a.drop i.toNat) m)], [])) ?_ _ _ _ _ ⟨rfl, ⟨by omega, by omega⟩, by omega⟩ (by omega))
    rintro i m a' K ⟨rfl, ⟨q0, q1⟩, rfl⟩ hK
    unfold laws_heldIntS_T2
    simp only [Bool.cond_eq_ite, decide_eq_true_eq, bne_iff_ne, ne_eq]
    by_cases hi : i < a'.length
    · have hlt : i.toNat < a'.length := by omega
      rw [if_pos hi, if_pos q0, if_pos hi, w64i q0 (by omega), List.drop_eq_getElem_cons hlt, heldV_cons _ _ _ (by omega), getD_lt hlt]
      by_cases hc : a'[i.toNat] = k + i
      · rw [if_neg (not_not_intro hc), if_pos hc, w64i (i := k + i) (by omega) (by omega), hK _ _ _ ⟨rfl, ⟨by omega, by omega⟩, by omega⟩ (by omega), toNat_succ q0]
      · rw [if_pos hc, if_neg hc]
    · rw [if_neg hi, List.drop_eq_nil_of_le (by omega), heldV_nil]
  · cases h
theorem heldV_in {l : List Int} {k : Int} (h0 : 0 ≤ k) (h : ¬ heldV l k < 0) : heldV l k = k + l.length := by
  unfold heldV at h ⊢
  split at h
  · rfl
  · omega
/-! ### Texts of numbers -/
theorem dig_loop (N : Nat) : ∀ (n : Nat) (k : Int) (out : ByteArray) (m : Nat), k < 10 ^ n → k < 9000000000000000000 → out.size + n ≤ 1000 → n < m → laws_markText_W4 N m (out, k) = some ([T (⟨#[109]⟩ ++ digK n k out)], [])
  | 0, k, out, m + 1, hk, hk2, ho, hm => by
    show laws_markText_T4 (laws_markText_W4 N m) (out, k) = _
    unfold laws_markText_T4
    have h1 : ¬ k > 0 := by have : (10 : Int) ^ 0 = 1 := rfl; omega
    have h2 : ByteArray.size ⟨#[109]⟩ + out.size < 1099511627776 := by have : ByteArray.size ⟨#[109]⟩ = 1 := rfl; omega
    simp only [Bool.cond_eq_ite, decide_eq_true_eq]
    rw [if_neg h1, if_pos h2]
    rfl
  | n + 1, k, out, m + 1, hk, hk2, ho, hm => by
    show laws_markText_T4 (laws_markText_W4 N m) (out, k) = _
    unfold laws_markText_T4
    have h2 : ByteArray.size ⟨#[109]⟩ + out.size < 1099511627776 := by have : ByteArray.size ⟨#[109]⟩ = 1 := rfl; omega
    simp only [Bool.cond_eq_ite, decide_eq_true_eq]
    by_cases h1 : k > 0
    · have e1 : k.tmod 10 = k % 10 := Int.tmod_eq_emod_of_nonneg (by omega)
      have e2 : k.tdiv 10 = k / 10 := Int.tdiv_eq_ediv_of_nonneg (by omega)
      have es : ∀ x : Int, (strOf [x]).size = 1 := fun x => rfl
      have hpow : (10 : Int) ^ (n + 1) = 10 ^ n * 10 := Int.pow_succ 10 n
      rw [if_pos h1, if_pos (by rw [es]; omega), w64 (x := 48 + k.tmod 10) (by omega) (by omega), w64 (x := k.tdiv 10) (by omega) (by omega),
        dig_loop N n (k.tdiv 10) _ m (by omega) (by omega) (by rw [ByteArray.size_append, es]; omega) (by omega), digK, if_pos h1]
    · rw [if_neg h1, if_pos h2, digK, if_neg h1]
theorem K_laws_markText : Sound1 Try.prog EKs F_laws_markText.f S_laws_markText := snd ok_laws_markText [] (tabF_nil _ _) fun args sp h hp => by
  unfold S_laws_markText at h
  split at h
  · rename_i k
    cases h
    obtain ⟨k0, k1⟩ := of_decide_eq_true hp
    refine ⟨rfl, 21, (laws_markText_run _ _).trans ?_⟩
    unfold laws_markText_T textK
    simp only [Bool.cond_eq_ite, decide_eq_true_eq]
    by_cases h : k ≤ 0
    · rw [if_pos h, if_pos h]
    · rw [if_neg h, if_neg h]
      exact dig_loop 21 20 k _ 21 (by have : (10 : Int) ^ 20 = 100000000000000000000 := by decide
                                      omega) (by omega) (by decide) (by decide)
  · cases h
/-! ### Equations that are held -/
theorem cntE_at {es : List Eqn} {i : Nat} (h : i < es.length) : cntE (es.drop i) = (es.getD i eqD).1.length + 1 + cntE (es.drop (i + 1)) := by
  rw [List.drop_eq_getElem_cons h, getD_lt h]; rfl
theorem heldE_at {es : List Eqn} {i : Nat} (h : i < es.length) (k : Int) : heldE (es.drop i) k = if heldV (es.getD i eqD).1 k < 0 then -1 else if (es.getD i eqD).2 = textK (k + (es.getD i eqD).1.length) then heldE (es.drop (i + 1)) (k + (es.getD i eqD).1.length + 1) else -1 := by
  rw [List.drop_eq_getElem_cons h, getD_lt h, heldE]
  by_cases h1 : heldV es[i].1 k < 0
  · rw [decide_eq_true h1, if_pos h1]
  · rw [decide_eq_false h1, if_neg h1]
    by_cases h2 : es[i].2 = textK (k + es[i].1.length)
    · rw [decide_eq_true h2, if_pos h2]
    · rw [decide_eq_false h2, if_neg h2]
theorem cntE_ge : ∀ es : List Eqn, es.length ≤ cntE es
  | [] => Nat.le_refl _
  | e :: es => by have := cntE_ge es; simp only [cntE, List.length_cons]; omega
theorem K_laws_heldEqS : Sound1 Try.prog EKs F_laws_heldEqS.f S_laws_heldEqS := snd ok_laws_heldEqS [(F_laws_heldIntS.f, S_laws_heldIntS), (F_laws_markText.f, S_laws_markText)] (tabF_cons K_laws_heldIntS (tabF_cons K_laws_markText (tabF_nil _ _))) fun args sp h hp => by
  unfold S_laws_heldEqS at h
  split at h
  · rename_i a k
    cases h
    obtain ⟨k0, k1⟩ := of_decide_eq_true hp
    have hge := cntE_ge a
    refine ⟨rfl, a.length + 1, (laws_heldEqS_run _ _ _).trans ?_⟩
    unfold laws_heldEqS_T
    refine (fix3 (T := fun k => laws_heldEqS_T2 k) (fun i m a' => a' = a ∧ (0 ≤ i ∧ i ≤ a.length) ∧ 0 ≤ m ∧ m + cntE (a.drop i.toNat) < 1000000000) (fun i _ _ => a.length - i.toNat) (fun i m _ => ([I (heldE (a.drop i.toNat) m)], [])) ?_ _ _ _ _ ⟨rfl, ⟨by omega, by omega⟩, k0, k1⟩ (by omega))
    rintro i m a' K ⟨rfl, ⟨q0, q1⟩, m0, m1⟩ hK
    unfold laws_heldEqS_T2
    simp only [ba_toList_eq]
    simp only [Bool.cond_eq_ite, decide_eq_true_eq, Bool.and_eq_true, beq_iff_eq, Bool.not_eq_true', decide_eq_false_iff_not, beq_eq_false_iff_ne, ne_eq]
    by_cases hi : i < a'.length
    · have hlt : i.toNat < a'.length := by omega
      rw [cntE_at hlt] at m1
      have hs : (a'.getD i.toNat eqD).1.length < 1000000000 := by omega
      rw [if_pos hi, if_pos q0, if_pos hi, if_pos ⟨hs, m0, by omega⟩, heldE_at hlt]
      by_cases h1 : heldV (a'.getD i.toNat eqD).1 m < 0
      · rw [if_pos h1, if_pos h1]
      · have e1 := heldV_in m0 h1
        rw [if_neg h1, if_neg h1, if_pos q0, if_pos hi, e1, if_pos ⟨by omega, by omega⟩, w64i q0 (by omega), w64 (by omega) (by omega)]
        by_cases h2 : (a'.getD i.toNat eqD).2 = textK (m + (a'.getD i.toNat eqD).1.length)
        · rw [if_neg (not_not_intro h2), if_pos h2, hK _ _ _ ⟨rfl, ⟨by omega, by omega⟩, by omega, by rw [toNat_succ q0]; omega⟩ (by omega), toNat_succ q0]
        · rw [if_pos h2, if_neg h2]
    · rw [if_neg hi, List.drop_eq_nil_of_le (by omega)]; rfl
  · cases h
theorem heldE_neg : ∀ (es : List Eqn) (k : Int), 0 ≤ k → heldE es k < 0 → heldE es k = -1
  | [], k, h0, h => by simp only [heldE] at h; omega
  | e :: es, k, h0, h => by
    rw [heldE] at h ⊢
    by_cases h1 : heldV e.1 k < 0
    · rw [decide_eq_true h1]
    · rw [decide_eq_false h1] at h ⊢
      by_cases h2 : e.2 = textK (k + e.1.length)
      · rw [decide_eq_true h2] at h ⊢
        exact heldE_neg es _ (by omega) h
      · rw [decide_eq_false h2]
theorem K_laws_heldSolver : Sound1 Try.prog EKs F_laws_heldSolver.f S_laws_heldSolver := snd ok_laws_heldSolver [(F_laws_heldEqS.f, S_laws_heldEqS)] (tabF_cons K_laws_heldEqS (tabF_nil _ _)) fun args sp h hp => by
  unfold S_laws_heldSolver at h
  split at h
  · rename_i c z a k
    cases h
    have hp : mkOk a k = true := hp
    obtain ⟨k0, k1⟩ := of_decide_eq_true hp
    refine ⟨rfl, 0, (laws_heldSolver_run _ _ _ _ _).trans ?_⟩
    unfold laws_heldSolver_T
    rw [hp]
    by_cases h1 : heldE a k < 0
    · rw [decide_eq_true h1, heldE_neg a k k0 h1]; rfl
    · rw [decide_eq_false h1]; rfl
  · cases h
/-- What was marked is held. -/
theorem held_mark : ∀ (es : List Eqn) (k : Int), 0 ≤ k → heldE (markE es k) k = markK es k
  | [], k, _ => rfl
  | e :: es, k, h0 => by
    have h1 : heldV (upL k e.1.length) k = k + e.1.length := by
      unfold heldV
      rw [upL_len, decide_eq_true rfl]
    rw [markE, heldE, h1, decide_eq_false (by omega), upL_len, decide_eq_true rfl]
    exact held_mark es _ (by omega)
theorem cnt_mark : ∀ (es : List Eqn) (k : Int), cntE (markE es k) = cntE es
  | [], _ => rfl
  | e :: es, k => by rw [markE, cntE, cntE, upL_len, cnt_mark es]
theorem mark_len : ∀ (es : List Eqn) (k : Int), (markE es k).length = es.length
  | [], _ => rfl
  | e :: es, k => by rw [markE, List.length_cons, List.length_cons, mark_len es]
theorem markK_eq : ∀ (es : List Eqn) (k : Int), markK es k = k + cntE es
  | [], k => by simp [markK, cntE]
  | e :: es, k => by rw [markK, cntE, markK_eq es]; omega
end Go.Proofs.Ytbolcmcjniiieaa.V
namespace Go.Proofs.Ytbolcmcjniiieaa.V
open Go Vx Vx.N
/-! ### Numbers in turn: written -/
section
open Go.RowKit
theorem upL_snoc : ∀ (n : Nat) (k : Int), upL k (n + 1) = upL k n ++ [k + n]
  | 0, k => by simp [upL]
  | n + 1, k => by
    rw [upL, upL_snoc n (k + 1), upL, List.cons_append]
    congr 2
    simp
    omega
structure AsideC (p : Prop) : Prop where mk :: (out : p)
def cellsN (w : World) (g cap : Nat) (e : TypeId) (n : Nat) (l : List Int) : Prop := ∃ cs, w.heap[g]? = some (.cells cs e (0, 0)) ∧ cs.size = cap ∧ cs.toList.take n = l.map (Value.int .i64)
theorem cellsN_at {w : World} {g cap n : Nat} {e : TypeId} {l : List Int} (h : cellsN w g cap e n l) {j : Nat} (hj : j < l.length) : w.cell? ⟨g, j, none⟩ = some (.int .i64 l[j]) ∧ w.frozen? ⟨g, j, none⟩ = false := by
  obtain ⟨cs, h1, h2, h3⟩ := h
  constructor
  · have h4 : (cs.toList.take n)[j]? = some (.int .i64 l[j]) := by rw [h3]; simp [hj]
    rw [List.getElem?_take] at h4
    split at h4
    · simp [World.cell?, h1]
      simpa using h4
    · cases h4
  · simp [World.frozen?, h1]
theorem cellsN_set {w : World} {g cap n : Nat} {e : TypeId} {l : List Int} (h : cellsN w g cap e n l) (j : Nat) (x : Int) : cellsN (w.setCell ⟨g, j, none⟩ (.int .i64 x)) g cap e n (l.set j x) := by
  obtain ⟨cs, h1, h2, h3⟩ := h
  refine ⟨_, Lib.heap_setCell_same h1 _, by simp [h2], ?_⟩
  rw [List.map_set, ← h3, Array.toList_setIfInBounds, List.take_set]
theorem up_set {l : List Int} {k : Int} {n : Nat} (h : n < l.length) : (upL k n ++ l.drop n).set n (k + n) = upL k (n + 1) ++ l.drop (n + 1) := by
  rw [List.set_append_right _ _ (by rw [upL_len]; exact Nat.le_refl _), upL_len, Nat.sub_self, List.drop_eq_getElem_cons h, List.set_cons_zero, upL_snoc, List.append_assoc]
  rfl
theorem chg_set {w w' : World} {g : Nat} (h : Chg (fun j => j = g) w w') (n : Nat) (v : Value) : Chg (fun j => j = g) w (w'.setCell ⟨g, n, none⟩ v) :=
  h.trans ⟨rfl, rfl, rfl, by simp [World.setCell], fun j _ hj => Below.heap_setCell _ _ _ j hj⟩
set_option maxHeartbeats 4000000 in
set_option maxRecDepth 100000 in
theorem mark_walk (g cap : Nat) (l : List Int) (k : Int) (e : TypeId) (w : World) (hb : cellsN w g cap e l.length l) (hc : l.length ≤ cap) (hl : l.length < 1000000000) (hk0 : 0 ≤ k) (hk1 : k < 10000000000) : Calls Try.prog 27 #[.slice (some ⟨g, 0, none⟩) l.length cap, .int .i64 k] w fun e' w' => e' = .returned (.int .i64 (k + l.length)) ∧ Chg (fun j => j = g) w w' ∧ cellsN w' g cap e l.length (upL k l.length) := by
  go_enter Try.func27, Try.ntmps27
  go_wp2
  go_loopg [1, 5] l.length (fun q v1 v5 w' => ∃ n : Nat, v5 = .int .i64 (n : Int) ∧ v1 = .int .i64 (k + n) ∧ n + q = l.length ∧ cellsN w' g cap e l.length (upL k n ++ l.drop n) ∧ AsideC (Chg (fun j => j = g) w w'))
  case atStart => exact ⟨0, rfl, by simp, by omega, hb, ⟨Chg.refl _ _⟩⟩
  case round =>
    obtain ⟨n, rfl, rfl, hn, hC, HB⟩ := hrel
    by_cases hlt : n < l.length
    · have hd : decide ((n : Int) < (l.length : Int)) = true := decide_eq_true (by omega)
      have hnl : n < (upL k n ++ l.drop n).length := by rw [List.length_append, upL_len, List.length_drop]; omega
      obtain ⟨hc1, hf1⟩ := cellsN_at hC hnl
      go_wp2
      cases gk with
      | zero => omega
      | succ q =>
        go_roundg q
        case measure => omega
        case rel =>
          refine ⟨n + 1, ?_, ?_, by omega, ?_, ⟨?_⟩⟩
          · congr 1
          · congr 1
            omega
          · rw [← up_set hlt]
            exact cellsN_set hC n (k + n)
          · exact chg_set HB.out _ _
    · have hd : decide ((n : Int) < (l.length : Int)) = false := decide_eq_false (by omega)
      go_wp2
      go_ret
      have : n = l.length := by omega
      subst this
      rw [List.drop_length, List.append_nil] at hC
      exact ⟨rfl, HB.out, hC⟩
set_option maxHeartbeats 4000000 in
set_option maxRecDepth 100000 in
theorem mark_nil (k : Int) (w : World) : Calls Try.prog 27 #[.slice none 0 0, .int .i64 k] w fun e' w' => e' = .returned (.int .i64 k) ∧ w' = w := by
  go_enter Try.func27, Try.ntmps27
  go_wp2
  go_loopg [1, 5] 0 (fun q v1 v5 w' => v5 = .int .i64 0 ∧ v1 = .int .i64 k ∧ w' = w)
  case atStart => exact ⟨rfl, rfl, rfl⟩
  case round =>
    obtain ⟨rfl, rfl, rfl⟩ := hrel
    go_wp2
    go_ret
    exact ⟨rfl, rfl⟩
theorem mark_ownM {u : Value} {l : List Int} {k : Int} {e : TypeId} {w : World} (ho : ownsM w false e 1 u l.length (l.map (Value.int .i64))) (hl : l.length < 1000000000) (hk0 : 0 ≤ k) (hk1 : k < 10000000000) : Calls Try.prog 27 #[u, .int .i64 k] w fun e' w' => e' = .returned (.int .i64 (k + l.length)) ∧ Chg (fun j => u.ownBlock = some j) w w' ∧ ownsM w' false e 1 u (upL k l.length).length ((upL k l.length).map (Value.int .i64)) := by
  rcases ho.2 with ⟨rfl, h0⟩ | ⟨g, cap, cur, fz, rfl, hg, hf, hn, hm, hs, ht⟩
  · have hnil : l = [] := List.eq_nil_of_length_eq_zero h0
    subst hnil
    refine (mark_nil k w).mono fun e' w' he => ?_
    obtain ⟨rfl, rfl⟩ := he
    exact ⟨by simp, Chg.refl _ _, ho⟩
  · have hfz : fz = (0, 0) := by
      rcases hf with hf | ⟨hf, _⟩
      · exact hf
      · cases hf
    subst hfz
    refine (mark_walk g cap l k e w ⟨cur, hg, by rw [hs, Nat.mul_one], by rw [← ht, Nat.mul_one]⟩ hn hl hk0 hk1).mono fun e' w' he => ?_
    obtain ⟨rfl, hch, cs, h1, h2, h3⟩ := he
    exact ⟨rfl, hch.mono fun j _ hj => by rw [hj]; rfl, ⟨by simp, .inr ⟨g, cap, cs, (0, 0), by rw [upL_len], h1, .inl rfl, by rw [upL_len]; exact hn, hm, by rw [h2, Nat.mul_one], by rw [upL_len, Nat.mul_one]; exact h3⟩⟩⟩
theorem markText_calls (k : Int) (w : World) (h0 : 0 ≤ k) (h1 : k < 100000000000) : Calls Try.prog 73 #[.int .i64 k] w fun e w' => e = .returned (.string (textK k)) ∧ Chg (fun _ => False) w w' := by
  have hK := (K_laws_markText F_laws_markText.f [I k] _ rfl (decide_eq_true ⟨h0, h1⟩)).2.1 rfl w (fun _ => False) (fun _ => False) [.int .i64 k] [] (.c rfl .nil) List.nodup_nil (fun _ h => h.elim) (fun _ h => h) ⟨fun _ _ _ h => (by cases h), fun _ _ h => (by cases h)⟩
  refine Calls.mono hK fun e w' hp => ?_
  obtain ⟨v, rfl, hch, G', _, _, hres⟩ := hp
  obtain ⟨vs, rfl, hall⟩ := hres
  cases hall with
  | cons h t =>
    cases t
    obtain rfl := (h : _ = Value.string (textK k))
    exact ⟨rfl, hch.mono fun j _ hj => by cases hj⟩
/-! ### Equations, written with their inner rows -/
theorem apart_blocks {us : List Value} (h : (us.filterMap Value.ownBlock).Nodup) {i j : Nat} {x y : Value} (hi : us[i]? = some x) (hj : us[j]? = some y) (hij : i ≠ j) {b : Nat} (hx : x.ownBlock = some b) : ¬ y.ownBlock = some b := fun hy => by
  have hp := List.pairwise_filterMap.1 h
  rw [List.pairwise_iff_getElem] at hp
  obtain ⟨hi1, rfl⟩ := List.getElem?_eq_some_iff.1 hi
  obtain ⟨hj1, rfl⟩ := List.getElem?_eq_some_iff.1 hj
  rcases Nat.lt_or_gt_of_ne hij with h | h
  · exact hp i j hi1 hj1 h b hx b hy rfl
  · exact hp j i hj1 hi1 h b hy b hx rfl
theorem getD_set (es : List Eqn) {n k : Nat} (hn : n < es.length) (p : Eqn) : (es.set n p).getD k eqD = if k = n then p else es.getD k eqD := by
  rw [List.getD_eq_getElem?_getD, List.getElem?_set]
  by_cases h : n = k
  · subst h; rw [if_pos rfl, if_pos hn, if_pos rfl]; rfl
  · rw [if_neg h, if_neg (Ne.symm h), ← List.getD_eq_getElem?_getD]
/-- An inner row turns. -/
theorem deep_inner {w w1 : World} {te e1 : TypeId} {u x : Value} {es : List Eqn} {l : List Nat} {cs us : List Value} (D : DeepRep w te u es l cs us) {n : Nat} (hn : n < es.length) (hx : us[n]? = some x) (hc : Chg (fun j => x.ownBlock = some j) w w1) {ys : List Int} (ho : ownsM w1 false e1 1 x ys.length (ys.map (Value.int .i64))) :
    DeepRep w1 te u (es.set n (ys, (es.getD n eqD).2)) l cs us := by
  have hnd : (us.filterMap Value.ownBlock).Nodup := by
    have := D.nd
    rw [D.blk] at this
    exact (List.nodup_append.1 this).2.1
  refine ⟨by rw [List.length_set]; exact ownsRow_chg hc D.own fun b hb hX => D.apart b (List.mem_filterMap.2 ⟨x, List.mem_of_getElem? hx, hX⟩) hb, fun k hk => ?_, ⟨by rw [List.length_set]; exact D.inn.1, fun k y hy => ?_⟩, D.blk, D.nd⟩
  · rw [List.length_set] at hk
    rw [getD_set es hn]
    by_cases h : k = n
    · subst h; rw [if_pos rfl]; exact D.prs k hk
    · rw [if_neg h]; exact D.prs k hk
  · rw [getD_set es hn]
    by_cases h : k = n
    · subst h
      rw [hx] at hy
      cases hy
      rw [if_pos rfl]
      exact ⟨e1, ho⟩
    · rw [if_neg h]
      obtain ⟨e', hy'⟩ := D.inn.2 k y hy
      exact ⟨e', ownsRow_chg hc hy' fun b hb hX => apart_blocks hnd hx hy (Ne.symm h) hX hb⟩
theorem deep_cell {w : World} {te : TypeId} {g cap : Nat} {es : List Eqn} {l : List Nat} {cs us : List Value} {m : Nat} (D : DeepRep w te (.slice (some ⟨g, 0, none⟩) m cap) es l cs us) {j : Nat} {v : Value} (hj : cs[j]? = some v) : w.cell? ⟨g, j, none⟩ = some v ∧ w.frozen? ⟨g, j, none⟩ = false := by
  have h := ownsM_cells D.own (g := g) rfl j v hj
  have e : (⟨g, 0, none⟩ : Addr).add j = ⟨g, j, none⟩ := by rw [Addr.add_lit, Nat.zero_add]
  rw [e] at h
  refine ⟨h, ?_⟩
  rcases D.own.2 with ⟨h0, _⟩ | ⟨g', cap', cur, fz, h0, hg, hf, _⟩
  · cases h0
  · cases h0
    rcases hf with rfl | ⟨hf, _⟩
    · simp [World.frozen?, hg]
    · cases hf
/-- The data turns. -/
theorem deep_data {w : World} {te : TypeId} {g cap m : Nat} {es : List Eqn} {l : List Nat} {cs us : List Value} (D : DeepRep w te (.slice (some ⟨g, 0, none⟩) m cap) es l cs us) {n : Nat} (hn : n < es.length) (s : ByteArray) :
    DeepRep (w.setCell ⟨g, 2 * n + 1, none⟩ (.string s)) te (.slice (some ⟨g, 0, none⟩) m cap) (es.set n ((es.getD n eqD).1, s)) l (cs.set (2 * n + 1) (.string s)) us := by
  have hc : Chg (fun j => (Value.slice (some ⟨g, 0, none⟩) m cap).ownBlock = some j) w (w.setCell ⟨g, 2 * n + 1, none⟩ (.string s)) := (chg_set (Chg.refl _ w) (2 * n + 1) (.string s)).mono fun j _ hj => by rw [hj]; rfl
  have hcl : cs.length = es.length * 2 := D.own.1
  refine ⟨⟨by rw [List.length_set, List.length_set]; exact hcl, ?_⟩, fun k hk => ?_, ?_, D.blk, D.nd⟩
  · rcases D.own.2 with ⟨h0, _⟩ | ⟨g', cap', cur, fz, h0, hg, hf, h1, h2, h3, h4⟩
    · cases h0
    · cases h0
      have hfz : fz = (0, 0) := by
        rcases hf with hf | ⟨hf, _⟩
        · exact hf
        · cases hf
      subst hfz
      refine .inr ⟨g, cap, _, (0, 0), by rw [List.length_set], Lib.heap_setCell_same hg _, .inl rfl, by rw [List.length_set]; exact h1, h2, by simp [h3], ?_⟩
      rw [List.length_set, ← h4, Array.toList_setIfInBounds, List.take_set]
  · rw [List.length_set] at hk
    obtain ⟨p1, p2⟩ := D.prs k hk
    rw [getD_set es hn, List.getElem?_set_ne (by omega), List.getElem?_set]
    refine ⟨p1, ?_⟩
    by_cases h : k = n
    · subst h
      rw [if_pos rfl, if_pos rfl, if_pos (by omega)]
    · rw [if_neg h, if_neg (by omega)]
      exact p2
  · have hi := D.inn.chg hc D.apart
    refine ⟨by rw [List.length_set]; exact hi.1, fun k y hy => ?_⟩
    have hy' := hi.2 k y hy
    rw [getD_set es hn]
    by_cases h : k = n
    · subst h; rw [if_pos rfl]; exact hy'
    · rw [if_neg h]; exact hy'
end
end Go.Proofs.Ytbolcmcjniiieaa.V
namespace Go.Proofs.Ytbolcmcjniiieaa.V
open Go Vx Vx.N
/-! ### Equations, written in turn -/
section
open Go.RowKit
theorem markE_app : ∀ (a b : List Eqn) (k : Int), markE (a ++ b) k = markE a k ++ markE b (markK a k)
  | [], _, _ => rfl
  | e :: a, b, k => by rw [List.cons_append, markE, markE_app a b, markE, markK]; rfl
theorem markK_app : ∀ (a b : List Eqn) (k : Int), markK (a ++ b) k = markK b (markK a k)
  | [], _, _ => rfl
  | e :: a, b, k => by rw [List.cons_append, markK, markK_app a b, markK]
theorem cntE_app : ∀ (a b : List Eqn), cntE (a ++ b) = cntE a + cntE b
  | [], b => by simp [cntE]
  | e :: a, b => by rw [List.cons_append, cntE, cntE_app a b, cntE]; omega
structure MkI (w0 w : World) (te : TypeId) (g cap : Nat) (es : List Eqn) (k : Int) (n : Nat) (l : List Nat) (us : List Value) : Prop where
  chg : Chg (fun j => j ∈ l) w0 w
  rep : ∃ cs, DeepRep w te (.slice (some ⟨g, 0, none⟩) es.length cap) (markE (es.take n) k ++ es.drop n) l cs us
theorem mark_step {w0 w : World} {te : TypeId} {g cap : Nat} {es : List Eqn} {k : Int} {n : Nat} {l : List Nat} {us : List Value} (H : MkI w0 w te g cap es k n l us) (hn : n < es.length) (hk0 : 0 ≤ k) (hk1 : k + cntE es < 1000000000) :
    ∃ x : Value, w.cell? ⟨g, n * 2, none⟩ = some x ∧ Calls Try.prog 27 #[x, .int .i64 (markK (es.take n) k)] w fun e w1 => e = .returned (.int .i64 (markK (es.take n) k + (es.getD n eqD).1.length)) ∧
      Calls Try.prog 73 #[.int .i64 (markK (es.take n) k + (es.getD n eqD).1.length)] w1 fun e w2 => e = .returned (.string (textK (markK (es.take n) k + (es.getD n eqD).1.length))) ∧ (∃ v, w2.cell? ⟨g, n * 2 + 1, none⟩ = some (.string v)) ∧ w2.frozen? ⟨g, n * 2 + 1, none⟩ = false ∧
        AsideC (MkI w0 (w2.setCell ⟨g, n * 2 + 1, none⟩ (.string (textK (markK (es.take n) k + (es.getD n eqD).1.length)))) te g cap es k (n + 1) l us) := by
  obtain ⟨cs, D⟩ := H.rep
  have hml : (markE (es.take n) k).length = n := by rw [mark_len, List.length_take]; omega
  have hLl : (markE (es.take n) k ++ es.drop n).length = es.length := by rw [List.length_append, hml, List.length_drop]; omega
  have hLn : (markE (es.take n) k ++ es.drop n).getD n eqD = es.getD n eqD := by
    rw [List.getD_eq_getElem?_getD, List.getElem?_append_right (by omega), hml, Nat.sub_self, List.getElem?_drop, Nat.add_zero, ← List.getD_eq_getElem?_getD]
  have hcnt : cntE es = cntE (es.take n) + ((es.getD n eqD).1.length + 1 + cntE (es.drop (n + 1))) := by
    rw [← cntE_at hn, ← cntE_app, List.take_append_drop]
  have hkk := markK_eq (es.take n) k
  have hul : us.length = es.length := D.inn.1.trans hLl
  obtain ⟨x, hx⟩ : ∃ x, us[n]? = some x := ⟨_, List.getElem?_eq_getElem (by omega)⟩
  obtain ⟨e1, hin⟩ := D.inn.2 n x hx
  rw [hLn] at hin
  obtain ⟨p1, p2⟩ := D.prs n (by omega)
  refine ⟨x, ?_, (mark_ownM hin (by omega) (show 0 ≤ markK (es.take n) k by omega) (by omega)).mono fun e w1 he => ?_⟩
  · have := (deep_cell D (p1.trans hx)).1
    rw [Nat.mul_comm] at this
    exact this
  obtain ⟨rfl, hch, hown⟩ := he
  have D1 := deep_inner D (by omega) hx hch hown
  refine ⟨rfl, (markText_calls _ w1 (by omega) (by omega)).mono fun e w2 he => ?_⟩
  obtain ⟨rfl, hch2⟩ := he
  have D2 : DeepRep w2 te _ _ l cs us := ⟨ownsRow_chg hch2 D1.own fun _ _ h => h, D1.prs, D1.inn.chg hch2 fun _ _ h => h, D1.blk, D1.nd⟩
  obtain ⟨q1, q2⟩ := D2.prs n (by rw [List.length_set]; omega)
  have hcell := deep_cell D2 q2
  rw [Nat.mul_comm] at hcell
  have D3 := deep_data D2 (n := n) (by rw [List.length_set]; omega) (textK (markK (es.take n) k + (es.getD n eqD).1.length))
  rw [List.set_set, getD_set _ (by omega), if_pos rfl, Nat.mul_comm] at D3
  have e2 : (markE (es.take n) k ++ es.drop n).set n (upL (markK (es.take n) k) (es.getD n eqD).1.length, textK (markK (es.take n) k + (es.getD n eqD).1.length)) = markE (es.take (n + 1)) k ++ es.drop (n + 1) := by
    rw [List.set_append_right _ _ (by omega), hml, Nat.sub_self, List.drop_eq_getElem_cons hn, List.set_cons_zero, List.take_succ_eq_append_getElem hn, markE_app, List.append_assoc, ← getD_lt hn eqD]
    rfl
  rw [e2] at D3
  refine ⟨rfl, ⟨_, hcell.1⟩, hcell.2, ⟨⟨?_, _, D3⟩⟩⟩
  · have hb1 : ∀ b, x.ownBlock = some b → b ∈ l := fun b hb => by rw [D.blk]; exact List.mem_append_right _ (List.mem_filterMap.2 ⟨x, List.mem_of_getElem? hx, hb⟩)
    have hb2 : g ∈ l := by rw [D.blk]; exact List.mem_append_left _ (by simp [Value.ownBlock])
    refine ((H.chg.trans (hch.mono fun j _ h => hb1 j h)).trans (hch2.mono fun j _ h => h.elim)).trans ?_
    exact (chg_set (w := w2) (w' := w2) (g := g) (Chg.refl _ w2) (n * 2 + 1) _).mono fun j _ hj => hj ▸ hb2
end
end Go.Proofs.Ytbolcmcjniiieaa.V
namespace Go.Proofs.Ytbolcmcjniiieaa.V
open Go Vx Vx.N
/-! ### Equations, written in turn: the walk -/
section
open Go.RowKit
set_option maxHeartbeats 4000000 in
set_option maxRecDepth 100000 in
theorem walk_eqs (g cap m : Nat) (I : Nat → World → Prop) (K : Nat → Int) (w : World) (h0 : I 0 w) (hm : m < 1000000000) (hK : ∀ n, n ≤ m → 0 ≤ K n ∧ K n < 1000000000)
    (hs : ∀ n w, n < m → I n w → ∃ x : Value, w.cell? ⟨g, n * 2, none⟩ = some x ∧ Calls Try.prog 27 #[x, .int .i64 (K n)] w fun e w1 => e = .returned (.int .i64 (K (n + 1) - 1)) ∧
      Calls Try.prog 73 #[.int .i64 (K (n + 1) - 1)] w1 fun e w2 => ∃ s v, e = .returned (.string s) ∧ w2.cell? ⟨g, n * 2 + 1, none⟩ = some (.string v) ∧ w2.frozen? ⟨g, n * 2 + 1, none⟩ = false ∧ I (n + 1) (w2.setCell ⟨g, n * 2 + 1, none⟩ (.string s))) :
    Calls Try.prog 57 #[.slice (some ⟨g, 0, none⟩) m cap, .int .i64 (K 0)] w fun e' w' => e' = .returned (.int .i64 (K m)) ∧ I m w' := by
  go_enter Try.func57, Try.ntmps57
  go_wp2
  go_loopg [1, 5] m (fun q v1 v5 w' => ∃ n : Nat, v5 = .int .i64 (n : Int) ∧ v1 = .int .i64 (K n) ∧ n + q = m ∧ I n w')
  case atStart => exact ⟨0, rfl, rfl, by omega, h0⟩
  case round =>
    obtain ⟨n, rfl, rfl, hn, HB⟩ := hrel
    by_cases hlt : n < m
    · have hd : decide ((n : Int) < (m : Int)) = true := decide_eq_true (by omega)
      obtain ⟨x, hx, m1⟩ := hs n _ hlt HB
      have hk1 := hK (n + 1) hlt
      clear hs h0 hK HB
      generalize hK1 : K (n + 1) = k1 at *
      generalize hK0 : K n = k0 at *
      go_wp2_with (go_at_call 27; go_fit m1; rintro e w1 ⟨rfl, m2⟩)
      go_wp2_with (go_at_call 73; go_fit m2; rintro e w2 ⟨s, v, rfl, hcell, hfz, hI⟩)
      cases gk with
      | zero => omega
      | succ q =>
        go_roundg q
        case measure => omega
        case rel => exact ⟨n + 1, rfl, by rw [hK1], by omega, hI⟩
    · have hd : decide ((n : Int) < (m : Int)) = false := decide_eq_false (by omega)
      go_wp2
      go_ret
      have : n = m := by omega
      subst this
      exact ⟨rfl, HB⟩
/-- Without an equation. -/
theorem walk_eqs_nil (k : Int) (w : World) : Calls Try.prog 57 #[.slice none 0 0, .int .i64 k] w fun e' w' => e' = .returned (.int .i64 k) ∧ w' = w := by
  go_enter Try.func57, Try.ntmps57
  go_wp2
  go_loopg [1, 5] 0 (fun q v1 v5 w' => v5 = .int .i64 0 ∧ v1 = .int .i64 k ∧ w' = w)
  case atStart => exact ⟨rfl, rfl, rfl⟩
  case round =>
    obtain ⟨rfl, rfl, rfl⟩ := hrel
    go_wp2
    go_ret
    exact ⟨rfl, rfl⟩
theorem mark_eqs {u : Value} {es : List Eqn} {k : Int} {te : TypeId} {l : List Nat} {cs us : List Value} {w : World} (D : DeepRep w te u es l cs us) (hk0 : 0 ≤ k) (hk1 : k + cntE es < 1000000000) :
    Calls Try.prog 57 #[u, .int .i64 k] w fun e' w' => e' = .returned (.int .i64 (markK es k)) ∧ Chg (fun j => j ∈ l) w w' ∧ ∃ cs, DeepRep w' te u (markE es k) l cs us := by
  have hlen := cntE_ge es
  rcases D.own.2 with ⟨rfl, h0⟩ | ⟨g, cap, cur, fz, rfl, hg, hf, hn, _⟩
  · have hnil : es = [] := List.eq_nil_of_length_eq_zero h0
    subst hnil
    refine (walk_eqs_nil k w).mono fun e' w' he => ?_
    obtain ⟨rfl, rfl⟩ := he
    exact ⟨rfl, Chg.refl _ _, cs, D⟩
  · have hbd : ∀ n, n ≤ es.length → 0 ≤ markK (es.take n) k ∧ markK (es.take n) k < 1000000000 := fun n hn => by
      have e1 := markK_eq (es.take n) k
      have e2 : cntE es = cntE (es.take n) + cntE (es.drop n) := by rw [← cntE_app, List.take_append_drop]
      omega
    have hnext : ∀ n, n < es.length → markK (es.take (n + 1)) k = markK (es.take n) k + (es.getD n eqD).1.length + 1 := fun n hn => by
      rw [List.take_succ_eq_append_getElem hn, markK_app, ← getD_lt hn eqD]; rfl
    have hw := walk_eqs g cap es.length (fun n w' => MkI w w' te g cap es k n l us) (fun n => markK (es.take n) k) w ⟨Chg.refl _ w, cs, D⟩ (by omega) hbd fun n w' hlt H => by
      obtain ⟨x, hx, m⟩ := mark_step H hlt hk0 hk1
      have e1 : markK (es.take (n + 1)) k - 1 = markK (es.take n) k + (es.getD n eqD).1.length := by rw [hnext n hlt]; omega
      refine ⟨x, hx, m.mono fun e w1 h => ?_⟩
      rw [e1]
      refine ⟨h.1, h.2.mono fun e w2 h2 => ?_⟩
      obtain ⟨rfl, ⟨v, hv⟩, hz, hI⟩ := h2
      exact ⟨_, v, rfl, hv, hz, hI.out⟩
    refine hw.mono fun e' w' he => ?_
    obtain ⟨rfl, hI⟩ := he
    obtain ⟨c, cs', D'⟩ := hI
    rw [List.take_length] at D' ⊢
    rw [List.drop_length, List.append_nil] at D'
    exact ⟨rfl, c, cs', D'⟩
set_option maxHeartbeats 4000000 in
set_option maxRecDepth 100000 in
theorem mark_sol {u : Value} {es : List Eqn} {k c z : Int} {te : TypeId} {l : List Nat} {cs us : List Value} {w : World} (D : DeepRep w te u es l cs us) (hk0 : 0 ≤ k) (hk1 : k + cntE es < 1000000000) :
    Calls Try.prog 26 #[.agg #[.int .i64 c, .int .i64 z, u], .int .i64 k] w fun e' w' => e' = .returned (.int .i64 (markK es k)) ∧ Chg (fun j => j ∈ l) w w' ∧ ∃ cs, DeepRep w' te u (markE es k) l cs us := by
  obtain ⟨A, n, x, rfl⟩ : ∃ A n x, u = .slice A n x := by
    rcases D.own.2 with ⟨rfl, _⟩ | ⟨g, cap, _, _, rfl, _⟩
    · exact ⟨_, _, _, rfl⟩
    · exact ⟨_, _, _, rfl⟩
  generalize ho : Obj.cells #[.int .i64 c, .int .i64 z, .slice A n x] 25 = o
  have ca := Chg.alloc (fun _ => False) w o
  have D1 : DeepRep (w.alloc o) te (.slice A n x) es l cs us := ⟨ownsRow_chg ca D.own fun _ _ h => h, D.prs, D.inn.chg ca fun _ _ h => h, D.blk, D.nd⟩
  have m1 := (mark_eqs D1 hk0 hk1).mono fun e' w' h => (⟨h.1, ((ca.mono fun _ _ h => h.elim).trans h.2.1), h.2.2⟩ : e' = .returned (.int .i64 (markK es k)) ∧ Chg (fun j => j ∈ l) w w' ∧ ∃ cs, DeepRep w' te (.slice A n x) (markE es k) l cs us)
  subst ho
  clear D D1 ca
  go_enter Try.func26, Try.ntmps26
  go_wp2_with (go_at_call 57; go_fit m1; rintro e w1 ⟨rfl, c1, r1⟩)
  go_ret
  exact ⟨rfl, c1, r1⟩
theorem K_laws_markSolver : Sound1 Try.prog EKs F_laws_markSolver.f S_laws_markSolver := by
  intro f args sp hsp hpre
  unfold tabF alook at hsp
  cases hb : Nat.beq f F_laws_markSolver.f with
  | false => rw [hb] at hsp; cases hsp
  | true =>
    rw [hb] at hsp
    have he := Nat.eq_of_beq_eq_true hb
    subst he
    have hsp : S_laws_markSolver args = some sp := hsp
    unfold S_laws_markSolver at hsp
    split at hsp
    · rename_i c z es k _
      cases hsp
      have hpre : mkOk es k = true := hpre
      obtain ⟨k0, k1⟩ := of_decide_eq_true hpre
      refine ⟨⟨_, Try.func26, by kernel_rfl, by kernel_rfl⟩, fun hg => (by cases hg), fun _ w B vals os hargs hnd hB hlt => ?_⟩
      cases hargs with
      | agg g1 t1 => cases g1 with
        | sc g1 => cases g1 with
          | sc g1 => cases g1 with
            | own he1 ho1 hk1 g1 =>
              cases g1
              cases t1 with
              | c g2 t2 =>
                cases t2
                cases g2 with
                | sc g2' =>
                  cases g2'
                  obtain ⟨cs, us, D⟩ := DeepRep.of ho1 hk1
                  refine (mark_sol D k0 k1).mono fun e' w' hp => ?_
                  obtain ⟨rfl, hch, cs', D'⟩ := hp
                  obtain ⟨r1, r2⟩ := D'.mk' B
                  exact ⟨_, rfl, hch.mono fun j _ hj => ⟨_, List.mem_cons_self, hj⟩, ⟨[_], rfl, .cons rfl .nil⟩, .cons ⟨_, he1, r1, r2⟩ .nil⟩
    · cases hsp
theorem K_laws_markIntS : Sound1 Try.prog EKs F_laws_markIntS.f S_laws_markIntS := by
  intro f args sp hsp hpre
  unfold tabF alook at hsp
  cases hb : Nat.beq f F_laws_markIntS.f with
  | false => rw [hb] at hsp; cases hsp
  | true =>
    rw [hb] at hsp
    have he := Nat.eq_of_beq_eq_true hb
    subst he
    have hsp : S_laws_markIntS args = some sp := hsp
    unfold S_laws_markIntS at hsp
    split at hsp
    · rename_i l k _
      cases hsp
      have hpre : (sm l.length && decide (0 ≤ k ∧ k < 10000000000)) = true := hpre
      rw [Bool.and_eq_true] at hpre
      have hl : l.length < 1000000000 := of_decide_eq_true hpre.1
      obtain ⟨k0, k1⟩ := of_decide_eq_true hpre.2
      refine ⟨⟨_, Try.func27, by kernel_rfl, by kernel_rfl⟩, fun hg => (by cases hg), fun _ w B vals os hargs hnd hB hlt => ?_⟩
      cases hargs with
      | c g1 t1 => cases g1 with
        | own he1 ho1 hk1' g1' =>
          cases g1'
          cases t1 with
          | c g2 t2 =>
            cases t2
            cases g2 with
            | sc g2' =>
              cases g2'
              refine (mark_ownM (own_ints ho1) hl k0 k1).mono fun e' w' hp => ?_
              obtain ⟨rfl, hch, ho⟩ := hp
              have hob := (Obk.flat rfl).1 hk1'
              refine ⟨_, rfl, hch.mono fun j _ hj => ⟨_, List.mem_cons_self, ?_⟩, ⟨[_], rfl, .cons rfl .nil⟩, .cons ⟨_, he1, ints_own ho, (Obk.flat rfl).2 hob⟩ .nil⟩
              show j ∈ _
              rw [hob, hj]; simp
    · cases hsp
end
end Go.Proofs.Ytbolcmcjniiieaa.V
