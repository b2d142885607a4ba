/- What functions come to, and that they do so; conditions: those that each theorem states. -/
import Derived.Test.YthcahoeoofggjaaKeK12G
set_option linter.unusedVariables false
set_option linter.unusedSimpArgs false
namespace Go.Proofs.Ythcahoeoofggjaa.V
open Go Vx Vx.N
/-! ### The law -/
noncomputable def S_laws_FnGetWant : List DA → Option Sp
  | [.c (.row (.ints .u8 a))] => some ⟨byOk a, [B true], [], .fresh⟩
  | _ => none
/-- What the number that is wanted is. -/
theorem wantN_ok (L Z : Int) (W G : List Int) (c z : Int) (es : List Eqn) : ∀ (k : Nat) (id : Int), 0 ≤ id → wantN L Z W G c z es k id = -1 ∨ ((id ≤ wantN L Z W G c z es k id ∧ wantN L Z W G c z es k id ≤ 9999 ∧ wantN L Z W G c z es k id < id + k) ∧ (saysE c z es (rowPl L Z W G (wantN L Z W G c z es k id))).2 = false ∧ ∀ j, id ≤ j → j < wantN L Z W G c z es k id → (saysE c z es (rowPl L Z W G j)).2 = true)
  | 0, _, _ => .inl rfl
  | k + 1, id, h0 => by
    rw [wantN_step]
    by_cases h1 : 9999 < id
    · rw [if_pos h1]; exact .inl rfl
    rw [if_neg h1]
    cases hs : (saysE c z es (rowPl L Z W G id)).2 with
    | false => exact .inr ⟨⟨Int.le_refl _, by show id ≤ 9999; omega, by show id < id + ((k + 1 : Nat) : Int); omega⟩, hs, fun j h2 h3 => by have h3 : j < id := h3; omega⟩
    | true =>
      rcases wantN_ok L Z W G c z es k (id + 1) (by omega) with h | ⟨⟨h2, h3, h3'⟩, h4, h5⟩
      · exact .inl h
      · refine .inr ⟨⟨by show id ≤ wantN L Z W G c z es k (id + 1); omega, h3, by show wantN L Z W G c z es k (id + 1) < id + ((k + 1 : Nat) : Int); omega⟩, h4, fun j h6 h7 => ?_⟩
        by_cases e : j = id
        · rw [e]; exact hs
        · exact h5 j (by omega) h7
theorem red_row {c z : Int} {es : List Eqn} (hS : SolverP c z es) {row : List Int} {t : ByteArray} (hr : RowP row c) (ht : (t.size : Int) = z) (h : (redE es row (zerosB z.toNat)).1 ≠ []) : (red es (row, t)).1 ≠ [] := by
  rw [red_split hS hr ht]
  show xorL (red es (row, zerosB z.toNat)).1 [] ≠ []
  rw [xorL_nil_right]
  exact h
/-- Where all is known, every row says something. -/
theorem full_says {c z : Int} {es : List Eqn} (hS : SolverP c z es) (hf : (prefE es : Int) = c) {row : List Int} (hr : RowP row c) : (redE es row (zerosB z.toNat)).1 = [] := by
  have A := sol_of hS
  have hv := eq0 hS.2.1 hr
  have hnp := red_np A.e hv
  have hro := (red_ok A.e hv).r
  show (red es (row, zerosB z.toNat)).1 = []
  cases h : (red es (row, zerosB z.toNat)).1 with
  | nil => rfl
  | cons x l =>
    exfalso
    rw [h] at hro hnp
    have hx := hro.2.2.2 x List.mem_cons_self
    obtain ⟨e, he, h1⟩ := getE_mem_iff.1 ((pref_ok hS).1 x.toNat (by omega))
    refine hnp e he ?_
    have : piv e = x := by
      show e.1.getD 0 0 = x
      rw [h1]
      show ((x.toNat : Nat) : Int) = x
      omega
    rw [this]; exact List.mem_cons_self
theorem K_laws_FnGetWant : Sound1 Try.prog EKs F_laws_FnGetWant.f S_laws_FnGetWant := snd ok_laws_FnGetWant [(F_spec_DrawGetWant.f, S_spec_DrawGetWant), (F_impl_GetWant.f, S_impl_GetWant), (F_spec_GetWant.f, S_spec_GetWant), (F_impl_GetAdd.f, S_impl_GetAdd), (F_impl_SolverSays.f, S_impl_SolverSays), (F_impl_PlanRow.f, S_impl_PlanRow), (F_impl_GetDone.f, S_impl_GetDone)]
    (tabF_cons K_spec_DrawGetWant (tabF_cons K_impl_GetWant (tabF_cons K_spec_GetWant (tabF_cons K_impl_GetAdd (tabF_cons K_impl_SolverSays (tabF_cons K_impl_PlanRow (tabF_cons K_impl_GetDone (tabF_nil _ _)))))))) fun args sp h hp => by
  unfold S_laws_FnGetWant at h
  split at h
  · rename_i code
    cases h
    have p1 : byOk code = true := hp
    have hsm : smG (drawG code).2.2.1 (drawG code).2.2.2.1 (drawG code).2.2.2.2.2.2 = true := (anyG_ok (byOk_rd p1) (by omega)).1
    refine ⟨rfl, 120, (laws_FnGetWant_run _ _).trans ?_⟩
    unfold laws_FnGetWant_T
    by_cases l1 : (code.length : Int) > 1048576
    · rw [decide_eq_true l1]; rfl
    rw [decide_eq_false l1, p1, hsm]
    generalize (idR (code.take 2000) (anyG (code.take 2000) 0).2).1 = fr at *
    generalize (drawG code).1 = L at *
    generalize (drawG code).2.1 = Z at *
    generalize (drawG code).2.2.1 = W at *
    generalize (drawG code).2.2.2.1 = G at *
    generalize (drawG code).2.2.2.2.1 = c at *
    generalize (drawG code).2.2.2.2.2.1 = z at *
    generalize (drawG code).2.2.2.2.2.2 = es at *
    rw [bne_dec, decide_eq_true rfl]
    by_cases hneg : wantS L Z W G c z es fr < 0
    · have : wantS L Z W G c z es fr = -1 := by
        unfold wantS at hneg ⊢
        cases hb : getB L Z W G c z es && inB fr 0 9999 with
        | false => rfl
        | true =>
          rw [hb] at hneg
          simp only [Bool.and_eq_true] at hb
          have hf := inB_of.1 hb.2
          rcases wantN_ok L Z W G c z es 100 fr hf.1 with h | ⟨⟨h, _⟩, _⟩
          · exact h
          · have hneg : wantN L Z W G c z es 100 fr < 0 := hneg
            omega
      rw [this]; rfl
    · have hcond : getB L Z W G c z es && inB fr 0 9999 := by
        cases hb : getB L Z W G c z es && inB fr 0 9999 with
        | true => rfl
        | false =>
          exfalso
          refine hneg ?_
          unfold wantS
          rw [hb]
          show (-1 : Int) < 0
          omega
      have hws : wantS L Z W G c z es fr = wantN L Z W G c z es 100 fr := by unfold wantS; rw [hcond]
      simp only [Bool.and_eq_true] at hcond
      obtain ⟨hP, hS, rfl, rfl⟩ := getB_iff.1 hcond.1
      have hf := inB_of.1 hcond.2
      rw [decide_eq_false hneg]
      rw [hws] at hneg ⊢
      obtain ⟨⟨n1, n2, n2'⟩, n3, n4⟩ := (wantN_ok L z W G (cnt L z) z es 100 fr hf.1).resolve_left (by omega)
      generalize wantN L z W G (cnt L z) z es 100 fr = id at *
      have h2 := hP.2.1
      have hid : 0 ≤ id ∧ id ≤ 9999 := ⟨by omega, n2⟩
      have hr := (rowPl_ok hP hid.1).1
      have hred : (redE es (rowPl L z W G id) (zerosB z.toNat)).1 ≠ [] := fun h => by
        rw [(want_says hP hS hid.1).1 h] at n3; cases n3
      have hdone : doneS L z W G (cnt L z) z es = false := by
        unfold doneS
        rw [hcond.1]
        show decide ((prefE es : Int) = cnt L z) = false
        refine decide_eq_false fun hfull => hred (full_says hS hfull hr)
      show laws_FnGetWant_W11 120 120 (0, ⟨#[]⟩, id, fr, L, z, W, G, cnt L z, z, es) = some ([B true], [])
      refine fix11 (T := fun k => laws_FnGetWant_T11 k (laws_FnGetWant_W16 120 120)) (fun i d id' f' L' Z' W' G' c' z' es' => (id' = id ∧ f' = fr ∧ L' = L ∧ Z' = z ∧ W' = W ∧ G' = G ∧ c' = cnt L z ∧ z' = z ∧ es' = es) ∧ (0 ≤ i ∧ i ≤ z) ∧ (d.size : Int) = i) (fun i _ _ _ _ _ _ _ _ _ _ => (z - i).toNat) (fun _ _ _ _ _ _ _ _ _ _ _ => ([B true], [])) ?_ _ _ _ _ _ _ _ _ _ _ _ _ ⟨⟨rfl, rfl, rfl, rfl, rfl, rfl, rfl, rfl, rfl⟩, ⟨by omega, by omega⟩, rfl⟩ (by omega)
      intro i d id' f' L' Z' W' G' c' z' es' K hI hK
      obtain ⟨⟨e1, e2, e3, e4, e5, e6, e7, e8, e9⟩, ⟨q0, q1⟩, q2⟩ := hI
      rw [e1, e2, e3, e4, e5, e6, e7, e8, e9]
      unfold laws_FnGetWant_T11
      dsimp only
      by_cases hi : i < z
      · have e1' : (ByteArray.size { data := #[100] }) = 1 := rfl
        rw [decide_eq_true hi, decide_eq_true (show d.size + ByteArray.size { data := #[100] } < 1099511627776 by rw [e1']; omega), w64i q0 (by omega)]
        refine hK _ _ _ _ _ _ _ _ _ _ _ ⟨⟨rfl, rfl, rfl, rfl, rfl, rfl, rfl, rfl, rfl⟩, ⟨by omega, by omega⟩, ?_⟩ (by omega)
        rw [ByteArray.size_append, e1']; omega
      · have hd : (d.size : Int) = z := by omega
        have hcode : (addG L z W G (cnt L z) z es id d).2 = 0 := by
          unfold addG
          rw [hcond.1, inBt hid, decide_eq_true hd]
          show (addE z es (rowPl L z W G id) d).2 = 0
          rcases addE_cases z es (rowPl L z W G id) d with ⟨h, _⟩ | ⟨h, _⟩ | ⟨_, h⟩
          · exact absurd h (red_row hS hr hd hred)
          · exact absurd h (red_row hS hr hd hred)
          · rw [h]
        rw [decide_eq_false hi, hsm, hcode]
        show laws_FnGetWant_W16 120 120 (fr, 0, id, fr, L, z, W, G, cnt L z, z, es) = some ([B true], [])
        refine fix11 (T := fun k => laws_FnGetWant_T16 k) (fun n k' id' f' L' Z' W' G' c' z' es' => (k' = 0 ∧ id' = id ∧ f' = fr ∧ L' = L ∧ Z' = z ∧ W' = W ∧ G' = G ∧ c' = cnt L z ∧ z' = z ∧ es' = es) ∧ (fr ≤ n ∧ n ≤ id)) (fun n _ _ _ _ _ _ _ _ _ _ => (id - n).toNat) (fun _ _ _ _ _ _ _ _ _ _ _ => ([B true], [])) ?_ _ _ _ _ _ _ _ _ _ _ _ _ ⟨⟨rfl, rfl, rfl, rfl, rfl, rfl, rfl, rfl, rfl, rfl⟩, by omega, by omega⟩ (by omega)
        intro n k' id' f' L' Z' W' G' c' z' es' K2 hI2 hK2
        obtain ⟨⟨f0, f1, f2, f3, f4, f5, f6, f7, f8, f9⟩, w0, w1⟩ := hI2
        rw [f0, f1, f2, f3, f4, f5, f6, f7, f8, f9]
        unfold laws_FnGetWant_T16
        dsimp only
        by_cases hn : n < id
        · have hrs : rowPS L z W G n = rowPl L z W G n := by unfold rowPS; rw [planB_iff.2 hP, inBt ⟨by omega, by omega⟩]; rfl
          have hrm := rowPS_sm L z W G n
          have nx := hK2 (n + 1) _ _ _ _ _ _ _ _ _ _ ⟨⟨rfl, rfl, rfl, rfl, rfl, rfl, rfl, rfl, rfl, rfl⟩, by omega, by omega⟩ (by omega)
          rw [hrs] at hrm
          rw [decide_eq_true hn, (smG_of hsm).1, (smG_of hsm).2, hrs, hrm, n4 n w0 hn, w64i (by omega) (by omega), nx]; rfl
        · rw [decide_eq_false hn, decide_eq_true (show id ≥ fr by omega), hsm, hdone]; rfl
  · cases h
end Go.Proofs.Ythcahoeoofggjaa.V
