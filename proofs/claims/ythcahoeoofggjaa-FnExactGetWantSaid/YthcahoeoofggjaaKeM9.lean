/- What functions come to, and that they do so; conditions: those that each theorem states. -/
import Derived.Test.YthcahoeoofggjaaDer1G
set_option linter.unusedVariables false
set_option linter.unusedSimpArgs false
namespace Go.Proofs.Ythcahoeoofggjaa.V
open Go Vx Vx.N
/-! ### Degrees and drawn rows: plain -/
theorem nxt_in {s : Int} : 0 ≤ nxt s ∧ nxt s < 2147483648 := ⟨Int.emod_nonneg _ (by omega), Int.emod_lt_of_pos _ (by omega)⟩
theorem pck_in {s n : Int} (hn : 1 ≤ n) : 0 ≤ pck s n ∧ pck s n < n := ⟨Int.emod_nonneg _ (by omega), Int.emod_lt_of_pos _ (by omega)⟩
def degsB (n : Nat) : Bool := Nat.beq (degs n).length n && ((degs n).all (fun x => decide (0 ≤ x)) && decide ((degs n).sum = 65536))
set_option maxRecDepth 100000 in
theorem degsB_all : (List.range' 1 24).all degsB = true := by kernel_rfl
theorem degs_ok {c : Int} (h : 1 ≤ c ∧ c ≤ 24) : ((degs c).length : Int) = c ∧ (∀ x ∈ degs c, 0 ≤ x) ∧ (degs c).sum = 65536 := by
  have h1 := List.all_eq_true.1 degsB_all c.toNat (by rw [List.mem_range'_1]; omega)
  unfold degsB at h1
  rw [Int.toNat_of_nonneg (by omega)] at h1
  simp only [Bool.and_eq_true, List.all_eq_true, decide_eq_true_eq] at h1
  have h2 := Nat.eq_of_beq_eq_true h1.1
  exact ⟨by omega, h1.2.1, h1.2.2⟩
theorem degAt_cons (x : Int) (l : List Int) (p d : Int) : degAt (x :: l) p d = if p < x then d else degAt l (p - x) (d + 1) := rfl
theorem degAt_in (l : List Int) (p d : Int) (h0 : 0 ≤ p) (h : p < l.sum) : d ≤ degAt l p d ∧ degAt l p d < d + l.length := by
  induction l generalizing p d with
  | nil => simp at h; omega
  | cons x l ih =>
    unfold degAt
    rw [List.sum_cons] at h
    by_cases hx : p < x
    · rw [if_pos hx, List.length_cons]; omega
    · rw [if_neg hx, List.length_cons]
      have := ih (p - x) (d + 1) (by omega) (by omega)
      omega
theorem deg_in {c p : Int} (h : 1 ≤ c ∧ c ≤ 24) (hp : 0 ≤ p ∧ p < 65536) : 1 ≤ degAt (degs c) p 1 ∧ degAt (degs c) p 1 ≤ c := by
  obtain ⟨h1, _, h3⟩ := degs_ok h
  have := degAt_in (degs c) p 1 hp.1 (by omega)
  omega
theorem upTo_mem {n : Nat} {x : Int} : x ∈ upTo n ↔ 0 ≤ x ∧ x < n := by
  unfold upTo
  rw [List.mem_map]
  constructor
  · rintro ⟨i, hi, rfl⟩
    have := List.mem_range.1 hi
    omega
  · intro h
    exact ⟨x.toNat, List.mem_range.2 (by omega), by omega⟩
theorem upTo_len (n : Nat) : (upTo n).length = n := by simp [upTo]
theorem upTo_nodup (n : Nat) : (upTo n).Nodup := by
  unfold upTo
  exact List.Pairwise.map _ (fun a b h => by omega) List.nodup_range
theorem upTo_succ (n : Nat) : upTo (n + 1) = upTo n ++ [(n : Int)] := by
  unfold upTo
  rw [List.range_succ, List.map_append]; rfl
theorem into_mem {l : List Int} {n x : Int} : x ∈ into l n ↔ x = n ∨ x ∈ l := by
  induction l with
  | nil => simp [into]
  | cons y l ih =>
    unfold into
    split
    · rw [List.mem_cons, ih, List.mem_cons]
      constructor
      · rintro (h | h | h) <;> simp [h]
      · rintro (h | h | h) <;> simp [h]
    · rw [List.mem_cons, List.mem_cons]
theorem into_len (l : List Int) (n : Int) : (into l n).length = l.length + 1 := by
  induction l with
  | nil => rfl
  | cons y l ih =>
    unfold into
    split
    · rw [List.length_cons, ih, List.length_cons]
    · rfl
theorem into_up {l : List Int} {n : Int} (h : l.Pairwise (· < ·)) (hn : n ∉ l) : (into l n).Pairwise (· < ·) := by
  induction l with
  | nil => exact List.pairwise_singleton _ _
  | cons y l ih =>
    rw [List.pairwise_cons] at h
    unfold into
    split
    · rename_i hy
      rw [List.pairwise_cons]
      refine ⟨fun x hx => ?_, ih h.2 fun hm => hn (List.mem_cons_of_mem _ hm)⟩
      rcases into_mem.1 hx with rfl | hx
      · exact hy
      · exact h.1 x hx
    · rename_i hy
      have hne : n ≠ y := fun e => hn (by rw [e]; exact List.mem_cons_self)
      rw [List.pairwise_cons]
      refine ⟨fun x hx => ?_, List.pairwise_cons.2 h⟩
      rcases List.mem_cons.1 hx with rfl | hx
      · omega
      · have := h.1 x hx; omega
theorem into_perm (l : List Int) (n : Int) : (into l n).Perm (l ++ [n]) := by
  induction l with
  | nil => exact List.Perm.refl _
  | cons y l ih =>
    unfold into
    split
    · exact List.Perm.cons y ih
    · exact (List.perm_append_singleton n (y :: l)).symm
/-- What is left and what is taken. -/
structure RowI (c : Int) (left out : List Int) : Prop where
  nd : left.Nodup
  lin : ∀ x ∈ left, 0 ≤ x ∧ x < c
  up : out.Pairwise (· < ·)
  oin : ∀ x ∈ out, 0 ≤ x ∧ x < c
  ne : ∀ x ∈ out, x ∉ left
theorem less_mem {l : List Int} {k : Nat} {x : Int} (h : x ∈ lessAt l k) : x ∈ l := by
  unfold lessAt at h
  rcases List.mem_append.1 h with h | h
  · exact List.mem_of_mem_take h
  · exact List.mem_of_mem_drop h
theorem less_perm {l : List Int} {k : Nat} (hk : k < l.length) : l.Perm (l.getD k 0 :: lessAt l k) := by
  have e : l = l.take k ++ (l.getD k 0 :: l.drop (k + 1)) := by
    rw [getD_lt hk, ← List.drop_eq_getElem_cons hk, List.take_append_drop]
  conv => lhs; rw [e]
  exact List.perm_middle
theorem less_len {l : List Int} {k : Nat} (hk : k < l.length) : (lessAt l k).length + 1 = l.length := by
  have := (less_perm hk).length_eq
  rw [List.length_cons] at this
  omega
theorem RowI.step {c : Int} {left out : List Int} (h : RowI c left out) {k : Nat} (hk : k < left.length) : RowI c (lessAt left k) (into out (left.getD k 0)) := by
  have hp := less_perm hk
  have hnd := hp.nodup_iff.1 h.nd
  rw [List.nodup_cons] at hnd
  have hm : left.getD k 0 ∈ left := hp.mem_iff.2 List.mem_cons_self
  refine ⟨hnd.2, fun x hx => h.lin x (less_mem hx), into_up h.up fun hx => h.ne _ hx hm, fun x hx => ?_, fun x hx hl => ?_⟩
  · rcases into_mem.1 hx with rfl | hx
    · exact h.lin _ hm
    · exact h.oin x hx
  · rcases into_mem.1 hx with rfl | hx
    · exact hnd.1 hl
    · exact h.ne x hx (less_mem hl)
theorem rowGo_ok {c : Int} (d : Nat) : ∀ (s : Int) (left out : List Int), RowI c left out → d ≤ left.length → (rowGo s left out d).Pairwise (· < ·) ∧ (∀ x ∈ rowGo s left out d, 0 ≤ x ∧ x < c) ∧ (rowGo s left out d).length = out.length + d := by
  induction d with
  | zero => exact fun s left out h _ => ⟨h.up, h.oin, rfl⟩
  | succ d ih =>
    intro s left out h hd
    unfold rowGo
    have hk := pck_in (s := nxt s) (n := (left.length : Int)) (by omega)
    have hk' : (pck (nxt s) left.length).toNat < left.length := by omega
    have hl := less_len hk'
    obtain ⟨h1, h2, h3⟩ := ih (nxt s) _ _ (h.step hk') (by omega)
    exact ⟨h1, h2, by rw [h3, into_len]; omega⟩
theorem rowN_in {c seed : Int} (h : 1 ≤ c ∧ c ≤ 24) : 1 ≤ rowN c seed ∧ (rowN c seed : Int) ≤ c := by
  have := deg_in (p := pck (nxt (nxt seed)) 65536) h (pck_in (by omega))
  unfold rowN
  omega
theorem rowDr_ok {c : Int} (seed : Int) (h : 1 ≤ c ∧ c ≤ 24) : RowP (rowDr c seed) c ∧ 1 ≤ (rowDr c seed).length ∧ ((rowDr c seed).length : Int) ≤ c := by
  have hn := rowN_in (seed := seed) h
  obtain ⟨h1, h2, h3⟩ := rowGo_ok (c := c) (rowN c seed) (nxt (nxt seed)) (upTo c.toNat) [] ⟨upTo_nodup _, fun x hx => by have := upTo_mem.1 hx; omega, List.Pairwise.nil, fun x hx => (by cases hx), fun x hx => (by cases hx)⟩ (by rw [upTo_len]; omega)
  rw [List.length_nil, Nat.zero_add] at h3
  refine ⟨⟨by omega, h.2, h1, fun x hx => ?_⟩, ?_, ?_⟩
  · exact h2 x hx
  · unfold rowDr; omega
  · unfold rowDr; omega
/-! sorting -/
theorem sortI_perm (l : List Int) : (sortI l).Perm l := List.mergeSort_perm _ _
theorem sortI_len (l : List Int) : (sortI l).length = l.length := (sortI_perm l).length_eq
theorem sortI_up (l : List Int) : (sortI l).Pairwise (· ≤ ·) := by
  have := List.pairwise_mergeSort (le := fun x y : Int => decide (x ≤ y)) (fun a b c h1 h2 => by simp only [decide_eq_true_eq] at *; omega) (fun a b => by simp only [Bool.or_eq_true, decide_eq_true_eq]; omega) l
  exact this.imp fun h => of_decide_eq_true h
theorem sortI_eq {l k : List Int} (hp : l.Perm k) (hk : k.Pairwise (· < ·)) : sortI l = k :=
  ((sortI_perm l).trans hp).eq_of_pairwise (fun _ _ _ _ h1 h2 => Int.le_antisymm h1 h2) (sortI_up l) (hk.imp fun h => Int.le_of_lt h)
/-! windows -/
theorem winAt_in {n : Int} : ∀ (W G : List Int) (k z : Int), (∀ w ∈ W, 1 ≤ w ∧ w ≤ n) → (1 ≤ z ∧ z ≤ n) → 1 ≤ winAt W G k z ∧ winAt W G k z ≤ n
  | [], _, _, _, _, hz => by unfold winAt; exact hz
  | _ :: _, [], _, _, _, hz => by unfold winAt; exact hz
  | w :: W, g :: G, k, z, hW, hz => by
    unfold winAt
    split
    · exact hW w List.mem_cons_self
    · exact winAt_in W G _ z (fun x hx => hW x (List.mem_cons_of_mem _ hx)) hz
theorem planP_win {L Z : Int} {W G : List Int} (h : PlanP L Z W G) : ∀ w ∈ W, 1 ≤ w ∧ w ≤ cnt L Z := fun w hw => by
  obtain ⟨j, hj, rfl⟩ := List.mem_iff_getElem.1 hw
  have := (h.2.2.2.2.2.1 j (Nat.zero_le _) hj).1
  rw [getD_lt hj] at this
  exact this
theorem planP_wgt {L Z : Int} {W G : List Int} (h : PlanP L Z W G) : ∀ g ∈ G, 1 ≤ g ∧ g ≤ 99 := fun g hg => by
  obtain ⟨j, hj, rfl⟩ := List.mem_iff_getElem.1 hg
  have h5 := h.2.2.2.2.1
  have := (h.2.2.2.2.2.1 j (Nat.zero_le _) (by omega)).2.2
  rw [getD_lt hj] at this
  exact this
theorem winOf_in {L Z : Int} {W G : List Int} (id : Int) (h : PlanP L Z W G) : 1 ≤ winOf L Z W G id ∧ winOf L Z W G id ≤ cnt L Z :=
  winAt_in W G _ _ (planP_win h) ⟨h.2.2.1.1, Int.le_refl _⟩
theorem sum_in {G : List Int} (h : ∀ g ∈ G, 1 ≤ g ∧ g ≤ 99) : (G.length : Int) ≤ G.sum ∧ G.sum ≤ 99 * G.length := by
  induction G with
  | nil => simp
  | cons g G ih =>
    have h1 := ih fun x hx => h x (List.mem_cons_of_mem _ hx)
    have h2 := h g List.mem_cons_self
    rw [List.sum_cons, List.length_cons]
    omega
theorem planP_sum {L Z : Int} {W G : List Int} (h : PlanP L Z W G) : 1 ≤ G.sum ∧ G.sum ≤ 297 := by
  have := sum_in (planP_wgt h)
  have h4 := h.2.2.2.1
  have h5 := h.2.2.2.2.1
  omega
theorem rowPl_ok {L Z : Int} {W G : List Int} {id : Int} (h : PlanP L Z W G) (hid : 0 ≤ id) : RowP (rowPl L Z W G id) (cnt L Z) ∧ 1 ≤ (rowPl L Z W G id).length := by
  have hc := h.2.2.1
  unfold rowPl
  split
  · rename_i hi
    exact ⟨⟨by omega, hc.2, List.pairwise_singleton _ _, fun x hx => by rw [List.mem_singleton.1 hx]; omega⟩, by simp⟩
  · have hw := winOf_in id h
    obtain ⟨h1, h2, _⟩ := rowDr_ok (c := winOf L Z W G id) id ⟨hw.1, by omega⟩
    exact ⟨rowP_le h1 hw.2 hc.2, h2⟩
end Go.Proofs.Ythcahoeoofggjaa.V
namespace Go.Proofs.Ythcahoeoofggjaa.V
open Go Vx Vx.N
theorem next_eq {s : Int} (h : 0 ≤ s ∧ s < 2147483648) : Int.tmod (IntKind.wrap .i64 (IntKind.wrap .i64 (s * 1103515245) + 12345)) 2147483648 = nxt s := by
  rw [w64 (x := s * 1103515245) (by omega) (by omega), w64 (x := s * 1103515245 + 12345) (by omega) (by omega), Int.tmod_eq_emod_of_nonneg (by omega)]; rfl
theorem pick2_eq {s n : Int} (h : 0 ≤ s ∧ s < 2147483648) : Int.tmod (IntKind.wrap .i64 (Int.tdiv s 256)) n = pck s n := by
  rw [Int.tdiv_eq_ediv_of_nonneg (by omega), w64 (x := s / 256) (by omega) (by omega), Int.tmod_eq_emod_of_nonneg (by omega)]; rfl
theorem K_spec_l4Next : Sound1 Try.prog EKs F_spec_l4Next.f S_spec_l4Next := snd ok_spec_l4Next [] (tabF_nil _ _) fun args sp h hp => by
  unfold S_spec_l4Next at h
  split at h
  · cases h
    refine ⟨rfl, 0, (spec_l4Next_run _ _).trans ?_⟩
    unfold spec_l4Next_T
    rw [next_eq (of_decide_eq_true hp)]
  · cases h
theorem K_spec_l4Pick : Sound1 Try.prog EKs F_spec_l4Pick.f S_spec_l4Pick := snd ok_spec_l4Pick [] (tabF_nil _ _) fun args sp h hp => by
  unfold S_spec_l4Pick at h
  split at h
  · cases h
    obtain ⟨h1, h2, h3⟩ := of_decide_eq_true hp
    refine ⟨rfl, 0, (spec_l4Pick_run _ _ _).trans ?_⟩
    unfold spec_l4Pick_T
    rw [pick2_eq h1, decide_eq_false (by omega)]; rfl
  · cases h
theorem K_impl_SeedNext : Sound1 Try.prog EKs F_impl_SeedNext.f S_impl_SeedNext := snd ok_impl_SeedNext [(F_impl_within.f, S_impl_within)] (tabF_cons K_impl_within (tabF_nil _ _)) fun args sp h hp => by
  unfold S_impl_SeedNext at h
  split at h
  · rename_i s
    cases h
    refine ⟨rfl, 0, (impl_SeedNext_run _ _).trans ?_⟩
    unfold impl_SeedNext_T nextS
    cases hb : inB s 0 2147483647 with
    | false => rfl
    | true =>
      have := inB_of.1 hb
      rw [next_eq ⟨by omega, by omega⟩]; rfl
  · cases h
theorem K_impl_SeedPick : Sound1 Try.prog EKs F_impl_SeedPick.f S_impl_SeedPick := snd ok_impl_SeedPick [(F_impl_within.f, S_impl_within)] (tabF_cons K_impl_within (tabF_nil _ _)) fun args sp h hp => by
  unfold S_impl_SeedPick at h
  split at h
  · rename_i s n
    cases h
    refine ⟨rfl, 0, (impl_SeedPick_run _ _ _).trans ?_⟩
    unfold impl_SeedPick_T pickS
    cases hb : inB s 0 2147483647 with
    | false => rfl
    | true =>
      cases hc : inB n 1 65536 with
      | false => rfl
      | true =>
        have := inB_of.1 hb
        have := inB_of.1 hc
        rw [pick2_eq ⟨by omega, by omega⟩, decide_eq_false (by omega)]; rfl
  · cases h
set_option maxRecDepth 100000
theorem degs_spec (n : Nat) (h : n < 24) : spec_l4Degrees_W4 30 30 (1, 65536, ((n + 1 : Nat) : Int), []) = some ([Is (degs ((n + 1 : Nat) : Int))], []) := by
  have h0 : spec_l4Degrees_W4 30 30 (1, 65536, 1, []) = some ([Is (degs 1)], []) := by kernel_rfl
  have h1 : spec_l4Degrees_W4 30 30 (1, 65536, 2, []) = some ([Is (degs 2)], []) := by kernel_rfl
  have h2 : spec_l4Degrees_W4 30 30 (1, 65536, 3, []) = some ([Is (degs 3)], []) := by kernel_rfl
  have h3 : spec_l4Degrees_W4 30 30 (1, 65536, 4, []) = some ([Is (degs 4)], []) := by kernel_rfl
  have h4 : spec_l4Degrees_W4 30 30 (1, 65536, 5, []) = some ([Is (degs 5)], []) := by kernel_rfl
  have h5 : spec_l4Degrees_W4 30 30 (1, 65536, 6, []) = some ([Is (degs 6)], []) := by kernel_rfl
  have h6 : spec_l4Degrees_W4 30 30 (1, 65536, 7, []) = some ([Is (degs 7)], []) := by kernel_rfl
  have h7 : spec_l4Degrees_W4 30 30 (1, 65536, 8, []) = some ([Is (degs 8)], []) := by kernel_rfl
  have h8 : spec_l4Degrees_W4 30 30 (1, 65536, 9, []) = some ([Is (degs 9)], []) := by kernel_rfl
  have h9 : spec_l4Degrees_W4 30 30 (1, 65536, 10, []) = some ([Is (degs 10)], []) := by kernel_rfl
  have h10 : spec_l4Degrees_W4 30 30 (1, 65536, 11, []) = some ([Is (degs 11)], []) := by kernel_rfl
  have h11 : spec_l4Degrees_W4 30 30 (1, 65536, 12, []) = some ([Is (degs 12)], []) := by kernel_rfl
  have h12 : spec_l4Degrees_W4 30 30 (1, 65536, 13, []) = some ([Is (degs 13)], []) := by kernel_rfl
  have h13 : spec_l4Degrees_W4 30 30 (1, 65536, 14, []) = some ([Is (degs 14)], []) := by kernel_rfl
  have h14 : spec_l4Degrees_W4 30 30 (1, 65536, 15, []) = some ([Is (degs 15)], []) := by kernel_rfl
  have h15 : spec_l4Degrees_W4 30 30 (1, 65536, 16, []) = some ([Is (degs 16)], []) := by kernel_rfl
  have h16 : spec_l4Degrees_W4 30 30 (1, 65536, 17, []) = some ([Is (degs 17)], []) := by kernel_rfl
  have h17 : spec_l4Degrees_W4 30 30 (1, 65536, 18, []) = some ([Is (degs 18)], []) := by kernel_rfl
  have h18 : spec_l4Degrees_W4 30 30 (1, 65536, 19, []) = some ([Is (degs 19)], []) := by kernel_rfl
  have h19 : spec_l4Degrees_W4 30 30 (1, 65536, 20, []) = some ([Is (degs 20)], []) := by kernel_rfl
  have h20 : spec_l4Degrees_W4 30 30 (1, 65536, 21, []) = some ([Is (degs 21)], []) := by kernel_rfl
  have h21 : spec_l4Degrees_W4 30 30 (1, 65536, 22, []) = some ([Is (degs 22)], []) := by kernel_rfl
  have h22 : spec_l4Degrees_W4 30 30 (1, 65536, 23, []) = some ([Is (degs 23)], []) := by kernel_rfl
  have h23 : spec_l4Degrees_W4 30 30 (1, 65536, 24, []) = some ([Is (degs 24)], []) := by kernel_rfl
  have h : n = 0 ∨ n = 1 ∨ n = 2 ∨ n = 3 ∨ n = 4 ∨ n = 5 ∨ n = 6 ∨ n = 7 ∨ n = 8 ∨ n = 9 ∨ n = 10 ∨ n = 11 ∨ n = 12 ∨ n = 13 ∨ n = 14 ∨ n = 15 ∨ n = 16 ∨ n = 17 ∨ n = 18 ∨ n = 19 ∨ n = 20 ∨ n = 21 ∨ n = 22 ∨ n = 23 := by omega
  rcases h with rfl | rfl | rfl | rfl | rfl | rfl | rfl | rfl | rfl | rfl | rfl | rfl | rfl | rfl | rfl | rfl | rfl | rfl | rfl | rfl | rfl | rfl | rfl | rfl
  · exact h0
  · exact h1
  · exact h2
  · exact h3
  · exact h4
  · exact h5
  · exact h6
  · exact h7
  · exact h8
  · exact h9
  · exact h10
  · exact h11
  · exact h12
  · exact h13
  · exact h14
  · exact h15
  · exact h16
  · exact h17
  · exact h18
  · exact h19
  · exact h20
  · exact h21
  · exact h22
  · exact h23
theorem degs_impl (n : Nat) (h : n < 24) : impl_Degrees_W6 30 30 (1, 65536, ((n + 1 : Nat) : Int), []) = some ([Is (degs ((n + 1 : Nat) : Int))], []) := by
  have h0 : impl_Degrees_W6 30 30 (1, 65536, 1, []) = some ([Is (degs 1)], []) := by kernel_rfl
  have h1 : impl_Degrees_W6 30 30 (1, 65536, 2, []) = some ([Is (degs 2)], []) := by kernel_rfl
  have h2 : impl_Degrees_W6 30 30 (1, 65536, 3, []) = some ([Is (degs 3)], []) := by kernel_rfl
  have h3 : impl_Degrees_W6 30 30 (1, 65536, 4, []) = some ([Is (degs 4)], []) := by kernel_rfl
  have h4 : impl_Degrees_W6 30 30 (1, 65536, 5, []) = some ([Is (degs 5)], []) := by kernel_rfl
  have h5 : impl_Degrees_W6 30 30 (1, 65536, 6, []) = some ([Is (degs 6)], []) := by kernel_rfl
  have h6 : impl_Degrees_W6 30 30 (1, 65536, 7, []) = some ([Is (degs 7)], []) := by kernel_rfl
  have h7 : impl_Degrees_W6 30 30 (1, 65536, 8, []) = some ([Is (degs 8)], []) := by kernel_rfl
  have h8 : impl_Degrees_W6 30 30 (1, 65536, 9, []) = some ([Is (degs 9)], []) := by kernel_rfl
  have h9 : impl_Degrees_W6 30 30 (1, 65536, 10, []) = some ([Is (degs 10)], []) := by kernel_rfl
  have h10 : impl_Degrees_W6 30 30 (1, 65536, 11, []) = some ([Is (degs 11)], []) := by kernel_rfl
  have h11 : impl_Degrees_W6 30 30 (1, 65536, 12, []) = some ([Is (degs 12)], []) := by kernel_rfl
  have h12 : impl_Degrees_W6 30 30 (1, 65536, 13, []) = some ([Is (degs 13)], []) := by kernel_rfl
  have h13 : impl_Degrees_W6 30 30 (1, 65536, 14, []) = some ([Is (degs 14)], []) := by kernel_rfl
  have h14 : impl_Degrees_W6 30 30 (1, 65536, 15, []) = some ([Is (degs 15)], []) := by kernel_rfl
  have h15 : impl_Degrees_W6 30 30 (1, 65536, 16, []) = some ([Is (degs 16)], []) := by kernel_rfl
  have h16 : impl_Degrees_W6 30 30 (1, 65536, 17, []) = some ([Is (degs 17)], []) := by kernel_rfl
  have h17 : impl_Degrees_W6 30 30 (1, 65536, 18, []) = some ([Is (degs 18)], []) := by kernel_rfl
  have h18 : impl_Degrees_W6 30 30 (1, 65536, 19, []) = some ([Is (degs 19)], []) := by kernel_rfl
  have h19 : impl_Degrees_W6 30 30 (1, 65536, 20, []) = some ([Is (degs 20)], []) := by kernel_rfl
  have h20 : impl_Degrees_W6 30 30 (1, 65536, 21, []) = some ([Is (degs 21)], []) := by kernel_rfl
  have h21 : impl_Degrees_W6 30 30 (1, 65536, 22, []) = some ([Is (degs 22)], []) := by kernel_rfl
  have h22 : impl_Degrees_W6 30 30 (1, 65536, 23, []) = some ([Is (degs 23)], []) := by kernel_rfl
  have h23 : impl_Degrees_W6 30 30 (1, 65536, 24, []) = some ([Is (degs 24)], []) := by kernel_rfl
  have h : n = 0 ∨ n = 1 ∨ n = 2 ∨ n = 3 ∨ n = 4 ∨ n = 5 ∨ n = 6 ∨ n = 7 ∨ n = 8 ∨ n = 9 ∨ n = 10 ∨ n = 11 ∨ n = 12 ∨ n = 13 ∨ n = 14 ∨ n = 15 ∨ n = 16 ∨ n = 17 ∨ n = 18 ∨ n = 19 ∨ n = 20 ∨ n = 21 ∨ n = 22 ∨ n = 23 := by omega
  rcases h with rfl | rfl | rfl | rfl | rfl | rfl | rfl | rfl | rfl | rfl | rfl | rfl | rfl | rfl | rfl | rfl | rfl | rfl | rfl | rfl | rfl | rfl | rfl | rfl
  · exact h0
  · exact h1
  · exact h2
  · exact h3
  · exact h4
  · exact h5
  · exact h6
  · exact h7
  · exact h8
  · exact h9
  · exact h10
  · exact h11
  · exact h12
  · exact h13
  · exact h14
  · exact h15
  · exact h16
  · exact h17
  · exact h18
  · exact h19
  · exact h20
  · exact h21
  · exact h22
  · exact h23
theorem K_spec_l4Degrees : Sound1 Try.prog EKs F_spec_l4Degrees.f S_spec_l4Degrees := snd ok_spec_l4Degrees [] (tabF_nil _ _) fun args sp h hp => by
  unfold S_spec_l4Degrees at h
  split at h
  · rename_i c
    cases h
    have h1 := of_decide_eq_true hp
    refine ⟨rfl, 30, (spec_l4Degrees_run _ _).trans ?_⟩
    have := degs_spec (c.toNat - 1) (by omega)
    rw [show ((c.toNat - 1 + 1 : Nat) : Int) = c by omega] at this
    exact this
  · cases h
theorem K_impl_Degrees : Sound1 Try.prog EKs F_impl_Degrees.f S_impl_Degrees := snd ok_impl_Degrees [(F_impl_within.f, S_impl_within)] (tabF_cons K_impl_within (tabF_nil _ _)) fun args sp h hp => by
  unfold S_impl_Degrees at h
  split at h
  · rename_i c
    cases h
    refine ⟨rfl, 30, (impl_Degrees_run _ _).trans ?_⟩
    unfold impl_Degrees_T degsS
    cases hb : inB c 1 24 with
    | false => rfl
    | true =>
      have h1 := inB_of.1 hb
      have := degs_impl (c.toNat - 1) (by omega)
      rw [show ((c.toNat - 1 + 1 : Nat) : Int) = c by omega] at this
      exact this
  · cases h
theorem drop_at {α : Type} {l : List α} {i : Nat} (h : i < l.length) (z : α) : l.drop i = l.getD i z :: l.drop (i + 1) := by
  rw [List.drop_eq_getElem_cons h, getD_lt h]
theorem K_spec_l4Degree : Sound1 Try.prog EKs F_spec_l4Degree.f S_spec_l4Degree := snd ok_spec_l4Degree [(F_spec_l4Degrees.f, S_spec_l4Degrees)] (tabF_cons K_spec_l4Degrees (tabF_nil _ _)) fun args sp h hp => by
  unfold S_spec_l4Degree at h
  split at h
  · rename_i c p
    cases h
    obtain ⟨hc, h1, h2⟩ := of_decide_eq_true hp
    obtain ⟨d1, d2, d3⟩ := degs_ok hc
    refine ⟨rfl, 30, (spec_l4Degree_run _ _ _).trans ?_⟩
    unfold spec_l4Degree_T
    rw [decide_eq_true hc]
    refine fix4 (T := fun k => spec_l4Degree_T3 k) (fun d l q c' => (l = degs c ∧ c' = c) ∧ (1 ≤ d ∧ d ≤ c) ∧ (0 ≤ q ∧ q ≤ p) ∧ q < ((degs c).drop (d - 1).toNat).sum ∧ degAt ((degs c).drop (d - 1).toNat) q d = degAt (degs c) p 1) (fun d _ _ _ => (c - d).toNat) (fun _ _ _ _ => ([I (degAt (degs c) p 1)], [])) ?_ _ _ _ _ _ ⟨⟨rfl, rfl⟩, ⟨by omega, by omega⟩, ⟨by omega, by omega⟩, by show p < ((degs c).drop 0).sum; rw [List.drop_zero]; omega, rfl⟩ (by omega)
    intro d l q c' K hI hK
    obtain ⟨⟨e1, e2⟩, ⟨q0, q1⟩, ⟨q2, q3⟩, q4, q5⟩ := hI
    rw [e1, e2]
    unfold spec_l4Degree_T3
    simp only [Bool.cond_eq_ite, decide_eq_true_eq]
    have hlt : (d - 1).toNat < (degs c).length := by omega
    have hd := drop_at hlt 0
    rw [hd] at q4 q5
    rw [List.sum_cons] at q4
    by_cases hi : d < ((degs c).length : Int)
    · rw [if_pos hi, w64 (x := d - 1) (by omega) (by omega), if_pos (by omega), if_pos (by omega)]
      rw [degAt_cons] at q5
      have hnx : (d + 1 - 1).toNat = (d - 1).toNat + 1 := by omega
      have hx0 := d2 _ (show (degs c).getD (d - 1).toNat 0 ∈ degs c by rw [getD_lt hlt]; exact List.getElem_mem hlt)
      by_cases hq : q < (degs c).getD (d - 1).toNat 0
      · rw [if_pos hq] at q5 ⊢
        rw [← q5]
      · rw [if_neg hq] at q5 ⊢
        rw [if_pos (by omega), if_pos (by omega), w64i (by omega) (by omega), w64 (x := q - _) (by omega) (by omega)]
        exact hK _ _ _ _ ⟨⟨rfl, rfl⟩, ⟨by omega, by omega⟩, ⟨by omega, by omega⟩, by rw [hnx]; omega, by rw [hnx]; exact q5⟩ (by omega)
    · rw [if_neg hi]
      rw [List.drop_eq_nil_of_le (by omega)] at q4 q5
      simp only [List.sum_nil] at q4
      rw [degAt_cons] at q5
      rw [if_pos (by omega)] at q5
      rw [← q5, show c = d by omega]
  · cases h
theorem degsS_in (c : Int) : ((degsS c).length ≤ 24) ∧ ∀ x ∈ degsS c, 0 ≤ x ∧ x ≤ 65536 := by
  unfold degsS
  cases hb : inB c 1 24 with
  | false => exact ⟨by simp, fun x hx => by cases hx⟩
  | true =>
    obtain ⟨d1, d2, d3⟩ := degs_ok (inB_of.1 hb)
    have h1 := inB_of.1 hb
    refine ⟨by show (degs c).length ≤ 24; omega, fun x hx => ⟨d2 x hx, ?_⟩⟩
    have key : ∀ l : List Int, (∀ x ∈ l, 0 ≤ x) → 0 ≤ l.sum ∧ ∀ x ∈ l, x ≤ l.sum := by
      intro l
      induction l with
      | nil => exact fun _ => ⟨by simp, fun x hx => by cases hx⟩
      | cons y l ih =>
        intro hl
        have h1 := ih fun x hx => hl x (List.mem_cons_of_mem _ hx)
        have h2 := hl y List.mem_cons_self
        rw [List.sum_cons]
        refine ⟨by omega, fun x hx => ?_⟩
        rcases List.mem_cons.1 hx with rfl | hx
        · omega
        · have := h1.2 x hx; omega
    have := (key (degs c) d2).2 x hx
    omega
theorem K_impl_DegreeOf : Sound1 Try.prog EKs F_impl_DegreeOf.f S_impl_DegreeOf := snd ok_impl_DegreeOf [(F_impl_within.f, S_impl_within), (F_impl_Degrees.f, S_impl_Degrees)] (tabF_cons K_impl_within (tabF_cons K_impl_Degrees (tabF_nil _ _))) fun args sp h hp => by
  unfold S_impl_DegreeOf at h
  split at h
  · rename_i c p
    cases h
    refine ⟨rfl, 30, (impl_DegreeOf_run _ _ _).trans ?_⟩
    unfold impl_DegreeOf_T degS
    cases hb : inB p 0 65535 with
    | false => rfl
    | true =>
      have hp' := inB_of.1 hb
      obtain ⟨hl, hx⟩ := degsS_in c
      refine fix5 (T := fun k => impl_DegreeOf_T5 k) (fun i n l s p' => (n = (degsS c).length ∧ l = degsS c ∧ p' = p) ∧ (0 ≤ i ∧ i ≤ (degsS c).length) ∧ (0 ≤ s ∧ s ≤ p) ∧ degAt ((degsS c).drop i.toNat) (p - s) (i + 1) = degAt (degsS c) p 1) (fun i _ _ _ _ => ((degsS c).length - i).toNat) (fun _ _ _ _ _ => ([I (degAt (degsS c) p 1)], [])) ?_ _ _ _ _ _ _ ⟨⟨rfl, rfl, rfl⟩, ⟨by omega, by omega⟩, ⟨by omega, by omega⟩, by rw [Int.sub_zero]; rfl⟩ (by omega)
      intro i n l s p' K hI hK
      obtain ⟨⟨e1, e2, e3⟩, ⟨q0, q1⟩, ⟨q2, q3⟩, q5⟩ := hI
      rw [e1, e2, e3]
      unfold impl_DegreeOf_T5
      simp only [Bool.cond_eq_ite, decide_eq_true_eq]
      by_cases hi : i < ((degsS c).length : Int)
      · have hlt : i.toNat < (degsS c).length := by omega
        have hx0 := hx _ (show (degsS c).getD i.toNat 0 ∈ degsS c by rw [getD_lt hlt]; exact List.getElem_mem hlt)
        rw [drop_at hlt 0] at q5
        rw [degAt_cons] at q5
        rw [if_pos hi, if_pos q0, if_pos hi, w64 (x := s + _) (by omega) (by omega), w64i q0 (by omega)]
        by_cases hq : s + (degsS c).getD i.toNat 0 > p
        · rw [if_pos hq]
          rw [if_pos (by omega)] at q5
          rw [← q5]
        · rw [if_neg hq]
          rw [if_neg (by omega)] at q5
          refine hK _ _ _ _ _ ⟨⟨rfl, rfl, rfl⟩, ⟨by omega, by omega⟩, ⟨by omega, by omega⟩, ?_⟩ (by omega)
          rw [toNat_succ q0, ← q5]
          congr 1; omega
      · rw [if_neg hi]
        rw [List.drop_eq_nil_of_le (by omega)] at q5
        rw [← q5]; rfl
  · cases h
theorem K_laws_whIn : Sound1 Try.prog EKs F_laws_whIn.f S_laws_whIn := snd ok_laws_whIn [] (tabF_nil _ _) fun args sp h hp => by
  unfold S_laws_whIn S_impl_within at h
  split at h
  · cases h
    refine ⟨rfl, 0, (laws_whIn_run _ _ _ _).trans ?_⟩
    unfold laws_whIn_T inB
    rename_i n a b
    by_cases h1 : a ≤ n <;> by_cases h2 : n ≤ b <;> simp [h1, h2]
  · cases h
end Go.Proofs.Ythcahoeoofggjaa.V
