/- What functions come to, and that they do so; conditions: those that each theorem states. -/
import Derived.Test.YthcahoeoofggjaaDer1G
set_option linter.unusedVariables false
set_option linter.unusedSimpArgs false
namespace Go.Proofs.Ythcahoeoofggjaa.V
open Go Vx Vx.N
/-! ### Degrees and drawn rows: plain -/
theorem nxt_in {s : Int} : 0 ≤ nxt s ∧ nxt s < 2147483648 := ⟨Int.emod_nonneg _ (by omega), Int.emod_lt_of_pos _ (by omega)⟩
theorem pck_in {s n : Int} (hn : 1 ≤ n) : 0 ≤ pck s n ∧ pck s n < n := ⟨Int.emod_nonneg _ (by omega), Int.emod_lt_of_pos _ (by omega)⟩
def degsB (n : Nat) : Bool := Nat.beq (degs n).length n && ((degs n).all (fun x => decide (0 ≤ x)) && decide ((degs n).sum = 65536))
set_option maxRecDepth 100000 in
theorem degsB_all : (List.range' 1 24).all degsB = true := by kernel_rfl
theorem degs_ok {c : Int} (h : 1 ≤ c ∧ c ≤ 24) : ((degs c).length : Int) = c ∧ (∀ x ∈ degs c, 0 ≤ x) ∧ (degs c).sum = 65536 := by
  have h1 := List.all_eq_true.1 degsB_all c.toNat (by rw [List.mem_range'_1]; omega)
  unfold degsB at h1
  rw [Int.toNat_of_nonneg (by omega)] at h1
  simp only [Bool.and_eq_true, List.all_eq_true, decide_eq_true_eq] at h1
  have h2 := Nat.eq_of_beq_eq_true h1.1
  exact ⟨by omega, h1.2.1, h1.2.2⟩
theorem degAt_cons (x : Int) (l : List Int) (p d : Int) : degAt (x :: l) p d = if p < x then d else degAt l (p - x) (d + 1) := rfl
theorem degAt_in (l : List Int) (p d : Int) (h0 : 0 ≤ p) (h : p < l.sum) : d ≤ degAt l p d ∧ degAt l p d < d + l.length := by
  induction l generalizing p d with
  | nil => simp at h; omega
  | cons x l ih =>
    unfold degAt
    rw [List.sum_cons] at h
    by_cases hx : p < x
    · rw [if_pos hx, List.length_cons]; omega
    · rw [if_neg hx, List.length_cons]
      have := ih (p - x) (d + 1) (by omega) (by omega)
      omega
theorem deg_in {c p : Int} (h : 1 ≤ c ∧ c ≤ 24) (hp : 0 ≤ p ∧ p < 65536) : 1 ≤ degAt (degs c) p 1 ∧ degAt (degs c) p 1 ≤ c := by
  obtain ⟨h1, _, h3⟩ := degs_ok h
  have := degAt_in (degs c) p 1 hp.1 (by omega)
  omega
theorem upTo_mem {n : Nat} {x : Int} : x ∈ upTo n ↔ 0 ≤ x ∧ x < n := by
  unfold upTo
  rw [List.mem_map]
  constructor
  · rintro ⟨i, hi, rfl⟩
    have := List.mem_range.1 hi
    omega
  · intro h
    exact ⟨x.toNat, List.mem_range.2 (by omega), by omega⟩
theorem upTo_len (n : Nat) : (upTo n).length = n := by simp [upTo]
theorem upTo_nodup (n : Nat) : (upTo n).Nodup := by
  unfold upTo
  exact List.Pairwise.map _ (fun a b h => by omega) List.nodup_range
theorem upTo_succ (n : Nat) : upTo (n + 1) = upTo n ++ [(n : Int)] := by
  unfold upTo
  rw [List.range_succ, List.map_append]; rfl
theorem into_mem {l : List Int} {n x : Int} : x ∈ into l n ↔ x = n ∨ x ∈ l := by
  induction l with
  | nil => simp [into]
  | cons y l ih =>
    unfold into
    split
    · rw [List.mem_cons, ih, List.mem_cons]
      constructor
      · rintro (h | h | h) <;> simp [h]
      · rintro (h | h | h) <;> simp [h]
    · rw [List.mem_cons, List.mem_cons]
theorem into_len (l : List Int) (n : Int) : (into l n).length = l.length + 1 := by
  induction l with
  | nil => rfl
  | cons y l ih =>
    unfold into
    split
    · rw [List.length_cons, ih, List.length_cons]
    · rfl
theorem into_up {l : List Int} {n : Int} (h : l.Pairwise (· < ·)) (hn : n ∉ l) : (into l n).Pairwise (· < ·) := by
  induction l with
  | nil => exact List.pairwise_singleton _ _
  | cons y l ih =>
    rw [List.pairwise_cons] at h
    unfold into
    split
    · rename_i hy
      rw [List.pairwise_cons]
      refine ⟨fun x hx => ?_, ih h.2 fun hm => hn (List.mem_cons_of_mem _ hm)⟩
      rcases into_mem.1 hx with rfl | hx
      · exact hy
      · exact h.1 x hx
    · rename_i hy
      have hne : n ≠ y := fun e => hn (by rw [e]; exact List.mem_cons_self)
      rw [List.pairwise_cons]
      refine ⟨fun x hx => ?_, List.pairwise_cons.2 h⟩
      rcases List.mem_cons.1 hx with rfl | hx
      · omega
      · have := h.1 x hx; omega
theorem into_perm (l : List Int) (n : Int) : (into l n).Perm (l ++ [n]) := by
  induction l with
  | nil => exact List.Perm.refl _
  | cons y l ih =>
    unfold into
    split
    · exact List.Perm.cons y ih
    · exact (List.perm_append_singleton n (y :: l)).symm
/-- What is left and what is taken. -/
structure RowI (c : Int) (left out : List Int) : Prop where
  nd : left.Nodup
  lin : ∀ x ∈ left, 0 ≤ x ∧ x < c
  up : out.Pairwise (· < ·)
  oin : ∀ x ∈ out, 0 ≤ x ∧ x < c
  ne : ∀ x ∈ out, x ∉ left
theorem less_mem {l : List Int} {k : Nat} {x : Int} (h : x ∈ lessAt l k) : x ∈ l := by
  unfold lessAt at h
  rcases List.mem_append.1 h with h | h
  · exact List.mem_of_mem_take h
  · exact List.mem_of_mem_drop h
theorem less_perm {l : List Int} {k : Nat} (hk : k < l.length) : l.Perm (l.getD k 0 :: lessAt l k) := by
  have e : l = l.take k ++ (l.getD k 0 :: l.drop (k + 1)) := by
    rw [getD_lt hk, ← List.drop_eq_getElem_cons hk, List.take_append_drop]
  conv => lhs; rw [e]
  exact List.perm_middle
theorem less_len {l : List Int} {k : Nat} (hk : k < l.length) : (lessAt l k).length + 1 = l.length := by
  have := (less_perm hk).length_eq
  rw [List.length_cons] at this
  omega
theorem RowI.step {c : Int} {left out : List Int} (h : RowI c left out) {k : Nat} (hk : k < left.length) : RowI c (lessAt left k) (into out (left.getD k 0)) := by
  have hp := less_perm hk
  have hnd := hp.nodup_iff.1 h.nd
  rw [List.nodup_cons] at hnd
  have hm : left.getD k 0 ∈ left := hp.mem_iff.2 List.mem_cons_self
  refine ⟨hnd.2, fun x hx => h.lin x (less_mem hx), into_up h.up fun hx => h.ne _ hx hm, fun x hx => ?_, fun x hx hl => ?_⟩
  · rcases into_mem.1 hx with rfl | hx
    · exact h.lin _ hm
    · exact h.oin x hx
  · rcases into_mem.1 hx with rfl | hx
    · exact hnd.1 hl
    · exact h.ne x hx (less_mem hl)
theorem rowGo_ok {c : Int} (d : Nat) : ∀ (s : Int) (left out : List Int), RowI c left out → d ≤ left.length → (rowGo s left out d).Pairwise (· < ·) ∧ (∀ x ∈ rowGo s left out d, 0 ≤ x ∧ x < c) ∧ (rowGo s left out d).length = out.length + d := by
  induction d with
  | zero => exact fun s left out h _ => ⟨h.up, h.oin, rfl⟩
  | succ d ih =>
    intro s left out h hd
    unfold rowGo
    have hk := pck_in (s := nxt s) (n := (left.length : Int)) (by omega)
    have hk' : (pck (nxt s) left.length).toNat < left.length := by omega
    have hl := less_len hk'
    obtain ⟨h1, h2, h3⟩ := ih (nxt s) _ _ (h.step hk') (by omega)
    exact ⟨h1, h2, by rw [h3, into_len]; omega⟩
theorem rowN_in {c seed : Int} (h : 1 ≤ c ∧ c ≤ 24) : 1 ≤ rowN c seed ∧ (rowN c seed : Int) ≤ c := by
  have := deg_in (p := pck (nxt (nxt seed)) 65536) h (pck_in (by omega))
  unfold rowN
  omega
theorem rowDr_ok {c : Int} (seed : Int) (h : 1 ≤ c ∧ c ≤ 24) : RowP (rowDr c seed) c ∧ 1 ≤ (rowDr c seed).length ∧ ((rowDr c seed).length : Int) ≤ c := by
  have hn := rowN_in (seed := seed) h
  obtain ⟨h1, h2, h3⟩ := rowGo_ok (c := c) (rowN c seed) (nxt (nxt seed)) (upTo c.toNat) [] ⟨upTo_nodup _, fun x hx => by have := upTo_mem.1 hx; omega, List.Pairwise.nil, fun x hx => (by cases hx), fun x hx => (by cases hx)⟩ (by rw [upTo_len]; omega)
  rw [List.length_nil, Nat.zero_add] at h3
  refine ⟨⟨by omega, h.2, h1, fun x hx => ?_⟩, ?_, ?_⟩
  · exact h2 x hx
  · unfold rowDr; omega
  · unfold rowDr; omega
/-! sorting -/
theorem sortI_perm (l : List Int) : (sortI l).Perm l := List.mergeSort_perm _ _
theorem sortI_len (l : List Int) : (sortI l).length = l.length := (sortI_perm l).length_eq
theorem sortI_up (l : List Int) : (sortI l).Pairwise (· ≤ ·) := by
  have := List.pairwise_mergeSort (le := fun x y : Int => decide (x ≤ y)) (fun a b c h1 h2 => by simp only [decide_eq_true_eq] at *; omega) (fun a b => by simp only [Bool.or_eq_true, decide_eq_true_eq]; omega) l
  exact this.imp fun h => of_decide_eq_true h
theorem sortI_eq {l k : List Int} (hp : l.Perm k) (hk : k.Pairwise (· < ·)) : sortI l = k :=
  ((sortI_perm l).trans hp).eq_of_pairwise (fun _ _ _ _ h1 h2 => Int.le_antisymm h1 h2) (sortI_up l) (hk.imp fun h => Int.le_of_lt h)
/-! windows -/
theorem winAt_in {n : Int} : ∀ (W G : List Int) (k z : Int), (∀ w ∈ W, 1 ≤ w ∧ w ≤ n) → (1 ≤ z ∧ z ≤ n) → 1 ≤ winAt W G k z ∧ winAt W G k z ≤ n
  | [], _, _, _, _, hz => by unfold winAt; exact hz
  | _ :: _, [], _, _, _, hz => by unfold winAt; exact hz
  | w :: W, g :: G, k, z, hW, hz => by
    unfold winAt
    split
    · exact hW w List.mem_cons_self
    · exact winAt_in W G _ z (fun x hx => hW x (List.mem_cons_of_mem _ hx)) hz
theorem planP_win {L Z : Int} {W G : List Int} (h : PlanP L Z W G) : ∀ w ∈ W, 1 ≤ w ∧ w ≤ cnt L Z := fun w hw => by
  obtain ⟨j, hj, rfl⟩ := List.mem_iff_getElem.1 hw
  have := (h.2.2.2.2.2.1 j (Nat.zero_le _) hj).1
  rw [getD_lt hj] at this
  exact this
theorem planP_wgt {L Z : Int} {W G : List Int} (h : PlanP L Z W G) : ∀ g ∈ G, 1 ≤ g ∧ g ≤ 99 := fun g hg => by
  obtain ⟨j, hj, rfl⟩ := List.mem_iff_getElem.1 hg
  have h5 := h.2.2.2.2.1
  have := (h.2.2.2.2.2.1 j (Nat.zero_le _) (by omega)).2.2
  rw [getD_lt hj] at this
  exact this
theorem winOf_in {L Z : Int} {W G : List Int} (id : Int) (h : PlanP L Z W G) : 1 ≤ winOf L Z W G id ∧ winOf L Z W G id ≤ cnt L Z :=
  winAt_in W G _ _ (planP_win h) ⟨h.2.2.1.1, Int.le_refl _⟩
theorem sum_in {G : List Int} (h : ∀ g ∈ G, 1 ≤ g ∧ g ≤ 99) : (G.length : Int) ≤ G.sum ∧ G.sum ≤ 99 * G.length := by
  induction G with
  | nil => simp
  | cons g G ih =>
    have h1 := ih fun x hx => h x (List.mem_cons_of_mem _ hx)
    have h2 := h g List.mem_cons_self
    rw [List.sum_cons, List.length_cons]
    omega
theorem planP_sum {L Z : Int} {W G : List Int} (h : PlanP L Z W G) : 1 ≤ G.sum ∧ G.sum ≤ 297 := by
  have := sum_in (planP_wgt h)
  have h4 := h.2.2.2.1
  have h5 := h.2.2.2.2.1
  omega
theorem rowPl_ok {L Z : Int} {W G : List Int} {id : Int} (h : PlanP L Z W G) (hid : 0 ≤ id) : RowP (rowPl L Z W G id) (cnt L Z) ∧ 1 ≤ (rowPl L Z W G id).length := by
  have hc := h.2.2.1
  unfold rowPl
  split
  · rename_i hi
    exact ⟨⟨by omega, hc.2, List.pairwise_singleton _ _, fun x hx => by rw [List.mem_singleton.1 hx]; omega⟩, by simp⟩
  · have hw := winOf_in id h
    obtain ⟨h1, h2, _⟩ := rowDr_ok (c := winOf L Z W G id) id ⟨hw.1, by omega⟩
    exact ⟨rowP_le h1 hw.2 hc.2, h2⟩
end Go.Proofs.Ythcahoeoofggjaa.V
