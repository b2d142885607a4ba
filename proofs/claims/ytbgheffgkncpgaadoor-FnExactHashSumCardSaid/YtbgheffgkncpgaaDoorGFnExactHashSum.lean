/- The statement FnExactHashSumCardSaid: for every input the law returns true, and each argument reads behind the call as it read before; what the row lists of package variables is tied to the program's text by the given tie. Conditions: none beside those of the given statement. -/
import Derived.Test.YtbgheffgkncpgaaDoorRows
import Derived.Test.YtbgheffgkncpgaaDoorCards
import Derived.Test.YtbgheffgkncpgaaDoorTie
import Derived.Test.YtbgheffgkncpgaaDoorKhLFnExactHashSum
import Derived.Test.YtbgheffgkncpgaaDoorVxD
import Derived.WalkKit
import Derived.ProofKit
import Derived.OpenShut
import Derived.ShutString
import Derived.ChangeOld
import Derived.ChangeVars
import Derived.OpenVars
import Derived.Below
import Derived.SizedLaws
import Derived.LaidMore
import Derived.Stop.Joined
import Derived.SevenTiedAt
namespace Go.Proofs.YtbgheffgkncpgaaDoor.fnExactHashSum
open Go.ChangeShapes Go.WideShapes Go.ChangeAt Go.RowKit Go Vx Vx.N Go.Proofs.YtbgheffgkncpgaaDoor.V
open Go.ChangeMaps (open_string shut_string)
set_option linter.unusedVariables false
theorem own : ownKnob Tryd.prog.godebug = none := by kernel_rfl
theorem laidOut : laidOutB Tryd.prog = true := by kernel_rfl
theorem arg_str {H : Type} {enc : TypeId × Value → H} {P : Program} {t : TypeId} {r : Reach} {W : World} {sp : Nat → Bool} {hd : Bool} {b : Nat} {v : Value} {dd : DataW H} {p : List MemPlace}
    (ht : P.underlying t = some .string) (hv : Value.okWide P W r b t v) (hx : DataW.Trod enc P W 0 sp hd t v dd p) : ∃ s : ByteArray, v = .string s ∧ s.size ≤ maxLen := by
  obtain ⟨s, rfl⟩ := okWide_string ht hv
  obtain ⟨fuel, hf⟩ := hx
  obtain ⟨m, hm, _, hw⟩ := DataW.trod_string ht hf
  have hm : [Value.string s] = [Value.string m] := hm
  cases hm
  exact ⟨s, rfl, hw⟩
/-- A table that is laid: its cells. -/
theorem table_cells {P : Program} {W : World} {n : String} {g : Nat} {t e : TypeId} {k : IntKind} {m fuel : Nat} {cs : Array Value} {p : List MemPlace} {tab : List Int}
    (hg : P.globalNamed n = some g) (hv : W.var? P n = some cs) (ht : P.underlying t = some (.array m e)) (he : P.underlying e = some (.int k)) (hce : P.cellsOf e = 1) (hl : tab.length = m)
    (hd : DataW.trod (fun _ => ()) P W 0 (fun _ => true) false fuel t cs.toList = some (.agg (tab.map fun x => .lit (.int k x)), p)) :
    ∀ i, i < m → W.cell? ⟨g, i, none⟩ = some (.int k (tab.getD i 0)) := by
  obtain ⟨xs, m1, rfl, hx, hlen, hn, hel⟩ := DataW.trod_array ht hd
  intro i hi
  have h1 := hel i hi
  rw [hce, Nat.mul_one] at h1
  have hxi : xs[i]? = some xs[i] := List.getElem?_eq_getElem (by omega)
  rw [hxi] at h1
  obtain ⟨q, e1, e2, _⟩ := DataW.trod_int he h1
  have hx1 : tab.map (fun x => DataW.lit (.int k x)) = xs.map (·.1) := by
    have := congrArg Prod.fst hx
    simpa using this
  have h2 : (tab.map fun x => DataW.lit (H := Unit) (.int k x))[i]? = (xs.map (·.1))[i]? := by rw [hx1]
  rw [List.getElem?_map, List.getElem?_map, hxi, List.getElem?_eq_getElem (by omega), e2] at h2
  have hq : tab[i] = q := by simpa using h2
  have hc : cs[i]? = some (.int k q) := by
    have h3 : (cs.toList.drop i).take 1 = [Value.int k q] := e1
    have h4 : ((cs.toList.drop i).take 1)[0]? = some (Value.int k q) := by rw [h3]; rfl
    rw [List.getElem?_take, if_pos (by omega), List.getElem?_drop, Nat.add_zero] at h4
    simpa using h4
  rw [World.var?_cell hg hv i, hc, ← hq, List.getD_eq_getElem?_getD, List.getElem?_eq_getElem (by omega)]
  rfl
theorem g0 : Tryd.prog.globalNamed "loop.example/wellhead/impl.shaStep" = some 0 := by kernel_rfl
theorem t0 : (Tryd.prog.globals[0]?).map (·.type) = some 62 := by kernel_rfl
/-- What the condition gives: the tables lie in the world. -/
theorem gl_of_laid {W : World} (h : laidMetH Tryd.prog Rows.fnExactHashSumRow.laid W) : GlW EKs W [] := by
  rw [MakeChecks.laidMetH_plain _ _ _ (by kernel_rfl)] at h
  obtain ⟨ps, ⟨g0, t0, cs0, f0, p0, q0, hg0, ht0, hv0, hd0, _, _⟩, _, _⟩ := h
  obtain rfl := Option.some.inj (fnExactHashSum.g0.symm.trans hg0)
  obtain rfl := Option.some.inj (fnExactHashSum.t0.symm.trans ht0)
  intro n k xs hm
  simp only [EKs, List.mem_cons, List.not_mem_nil, or_false, Prod.mk.injEq] at hm
  obtain ⟨rfl, rfl, rfl⟩ := hm
  · have hc := table_cells (tab := tab0) fnExactHashSum.g0 hv0 Tryd.underlying62 Tryd.underlying55 (by kernel_rfl) rfl hd0
    exact ⟨⟨World.block_lt_of_cell? W ⟨0, 0, none⟩ (hc 0 (by decide)), by simp⟩, hc⟩
/-- The door's own heap meets the condition. -/
theorem door_met (os : Os) (args : Array Value) : laidMetH Tryd.prog Rows.fnExactHashSumRow.laid ((World.doorLaid Tryd.prog 2000 os).forCall (fun _ _ => 0) ⟨#[], args, []⟩).memory :=
  laidMetH_of_parts3 (fuel := 8) (laidMet_of_run' 8 (by kernel_rfl) (by kernel_rfl)) (by kernel_rfl) (by kernel_rfl)
set_option maxRecDepth 100000 in
theorem lifted (os : Os) (started : os.Started) (H : Type) (enc : TypeId × Value → H) :
    ReturnsInHanded {} Tryd.checked os 3 .any (fun w args => (Rows.fnExactHashSumSpec.pre enc Tryd.prog Tryd.f3 [] false w args ∧ laidMetH Tryd.prog Rows.fnExactHashSumRow.laid w) ∧ sizedMet enc Tryd.prog Tryd.f3 (OpenSpec.ofChange Rows.fnExactHashSumSpec) false w args)
      (Rows.fnExactHashSumSpec.post enc Tryd.prog Tryd.f3 false true false false) := by
  refine returnsInHanded_of_change_and (C := Tryd.checked) (X := fun w _ => laidMetH Tryd.prog Rows.fnExactHashSumRow.laid w) (fun _ _ _ hh h => h.of_heap hh) own started (by kernel_rfl) Tryd.func3
    (ChangeSpec.witness_shaped (enc := enc) (C := Tryd.checked) (os := os) (X := fun w _ => laidMetH Tryd.prog Rows.fnExactHashSumRow.laid w) false (World.doorLaid Tryd.prog 2000 os) #[.string ⟨#[]⟩] 8 rfl (World.shaped_of_RefB (by kernel_rfl) (by kernel_rfl)) (by kernel_rfl) (by kernel_rfl) (by kernel_rfl) (door_met os _)) ?_
  intro W base args ds gs before hval0 hW _ _ hL _
  have hval : ∀ (j : Nat) t v, Tryd.f3.params[j]? = some t → args[j]? = some v → Value.okWide Tryd.prog W .any base t v := hval0
  have hW' := hW
  obtain ⟨p, q, hA0, hV, rfl, hfz, hnd⟩ := hW
  have hA : DataW.TrodAll enc Tryd.prog W 0 (fun _ => true) true Tryd.f3.params.toList args.toList ds p := hA0
  rw [Tryd.params3] at hA hval
  obtain ⟨v0, vs0, d0, ds0, p0, q0, hargs, rfl, rfl, h0, r0⟩ := trodAll_cons hA
  obtain ⟨rfl, rfl, rfl⟩ := trodAll_nil r0
  obtain rfl : args = #[v0] := by cases args; simp_all
  have hV1 : DataW.TrodVars enc Tryd.prog W (fun _ => true) Rows.fnExactHashSumSpec.vars gs q := hV
  obtain ⟨gv, tv, csv, fv, dv, pv, rfl, _⟩ := trodVars_one hV
  have k0 := h0
  have lt0 : ∀ x ∈ p0, x.block < W.heap.size := by obtain ⟨m, hm⟩ := k0; exact DataW.trod_lt m _ _ _ hm
  obtain ⟨a0, rfl, g0⟩ := arg_str Tryd.underlying9 (hval 0 9 v0 rfl rfl) h0
  clear hA0 hval0
  have hpre : (true) = true := by
    first | rfl | (simp only [Bool.and_eq_true]; exact trivial) | exact rfl
  have hS := (K_laws_FnExactHashSum 3 [T a0] ⟨true, [B true], [], .fresh⟩ (by kernel_rfl) hpre).2.1 rfl
  have hC := hS W (inW W) (fun _ => False) [.string a0] [] (.c rfl .nil) List.nodup_nil (fun _ h => h) (fun _ h => h.elim) (gl_of_laid hL)
  refine hC.mono fun e W' hpost => ?_
  obtain ⟨v, rfl, hch, G', _, _, vs, rfl, hall⟩ := hpost
  have bel : Below W.heap.size W W' := ⟨hch.os, hch.tape, hch.output, hch.size, fun j hj => hch.block j hj (by simp)⟩
  have hv : tupV vs = .bool true := by
    cases hall with
    | cons h1 t1 => cases t1; exact h1
  rw [hv]
  exact ⟨_, rfl, _, _, _, [], _, _, hW', trodAll_mk1 (shut_bool Tryd.underlying4 _), (trodAll_cons_mk (Below.trod laidOut (by kernel_rfl) (of_decide_eq_true (by kernel_rfl)) k0 bel lt0) trodAll_mk0), Below.trodVars laidOut bel (by kernel_rfl) hV1, bel.frame _, fun h => by cases h⟩
theorem over : Rows.fnExactHashSumRow.holds Tryd.pinned (OpenSpec.ofChange Rows.fnExactHashSumSpec) :=
  OpenClaim.holds_of_wide 3 Tryd.f3 rfl rfl rfl rfl rfl rfl rfl ⟨rfl, rfl, rfl, rfl, rfl⟩ rfl rfl rfl rfl rfl (by kernel_rfl) Tryd.func3 (by kernel_rfl)
    (of_decide_eq_true (by kernel_rfl)) (by unfold Func.isWrapper; first | (rw [if_pos (by decide +kernel)]; kernel_rfl) | (rw [if_neg (by decide +kernel)]; exact ⟨rfl, rfl⟩))
    (fun os started H enc _ => lifted os started H enc)
theorem proved : Rows.FnExactHashSumCardSaid :=
  Claim7.holds_tied_plain_at .later [] [.data] true (true, "2eb39a7ae7b67c5d61c8d297bed1475fb806bd1538127287c4fed8864d978a52") true
    over (fun _ h => by cases h) (by kernel_rfl) (fun _ h => by cases h) fnExactHashSum_row_tie rfl ⟨rfl, rfl⟩ (by kernel_rfl) rfl
    (fun f fn hf hfn => by
      obtain rfl : f = 3 := Option.some.inj ((show Tryd.prog.funcNamed "loop.example/wellhead/laws.FnExactHashSum" = some 3 by kernel_rfl).symm.trans hf) |>.symm
      obtain rfl : fn = Tryd.f3 := (Option.some.inj (Tryd.func3.symm.trans hfn)).symm
      exact ⟨by kernel_rfl, fun j t ht => by
        rw [Tryd.params3] at ht
        have hm : t ∈ [9] := by simpa using Array.mem_of_getElem? ht
        have hall : ([9].all fun u => !Tryd.prog.wantsStandIn u) = true := by kernel_rfl
        exact (show Tryd.prog.wantsStandIn t = false by simpa using List.all_eq_true.1 hall t hm)⟩)
    (by kernel_rfl)
#print axioms proved
end Go.Proofs.YtbgheffgkncpgaaDoor.fnExactHashSum
namespace Go.Proofs.YtbgheffgkncpgaaDoor
/-- The card, under a short name, for the claim. -/
theorem fnExactHashSum_holds : Rows.FnExactHashSumCardSaid := fnExactHashSum.proved
end Go.Proofs.YtbgheffgkncpgaaDoor
