/- The statement FnHashSumCardSaid: for every input the law returns true, and each argument reads behind the call as it read before; what the row lists of package variables is tied to the program's text by the given tie. Conditions: none beside those of the given statement. -/
import Derived.Test.YtbgheffgkncpgaaDoorRows
import Derived.Test.YtbgheffgkncpgaaDoorCards
import Derived.Test.YtbgheffgkncpgaaDoorTie
import Derived.Test.YtbgheffgkncpgaaDoorKhLFnHashSum
import Derived.Test.YtbgheffgkncpgaaDoorVxD
import Derived.WalkKit
import Derived.ProofKit
import Derived.OpenShut
import Derived.ShutString
import Derived.ChangeOld
import Derived.ChangeVars
import Derived.OpenVars
import Derived.Below
import Derived.SizedLaws
import Derived.LaidMore
import Derived.Stop.Joined
import Derived.SevenTiedAt
namespace Go.Proofs.YtbgheffgkncpgaaDoor.fnHashSum
open Go.ChangeShapes Go.WideShapes Go.ChangeAt Go.RowKit Go Vx Vx.N Go.Proofs.YtbgheffgkncpgaaDoor.V
open Go.ChangeMaps (open_string shut_string)
set_option linter.unusedVariables false
theorem own : ownKnob Tryd.prog.godebug = none := by kernel_rfl
theorem laidOut : laidOutB Tryd.prog = true := by kernel_rfl
/-- A table that is laid: its cells. -/
theorem table_cells {P : Program} {W : World} {n : String} {g : Nat} {t e : TypeId} {k : IntKind} {m fuel : Nat} {cs : Array Value} {p : List MemPlace} {tab : List Int}
    (hg : P.globalNamed n = some g) (hv : W.var? P n = some cs) (ht : P.underlying t = some (.array m e)) (he : P.underlying e = some (.int k)) (hce : P.cellsOf e = 1) (hl : tab.length = m)
    (hd : DataW.trod (fun _ => ()) P W 0 (fun _ => true) false fuel t cs.toList = some (.agg (tab.map fun x => .lit (.int k x)), p)) :
    ∀ i, i < m → W.cell? ⟨g, i, none⟩ = some (.int k (tab.getD i 0)) := by
  obtain ⟨xs, m1, rfl, hx, hlen, hn, hel⟩ := DataW.trod_array ht hd
  intro i hi
  have h1 := hel i hi
  rw [hce, Nat.mul_one] at h1
  have hxi : xs[i]? = some xs[i] := List.getElem?_eq_getElem (by omega)
  rw [hxi] at h1
  obtain ⟨q, e1, e2, _⟩ := DataW.trod_int he h1
  have hx1 : tab.map (fun x => DataW.lit (.int k x)) = xs.map (·.1) := by
    have := congrArg Prod.fst hx
    simpa using this
  have h2 : (tab.map fun x => DataW.lit (H := Unit) (.int k x))[i]? = (xs.map (·.1))[i]? := by rw [hx1]
  rw [List.getElem?_map, List.getElem?_map, hxi, List.getElem?_eq_getElem (by omega), e2] at h2
  have hq : tab[i] = q := by simpa using h2
  have hc : cs[i]? = some (.int k q) := by
    have h3 : (cs.toList.drop i).take 1 = [Value.int k q] := e1
    have h4 : ((cs.toList.drop i).take 1)[0]? = some (Value.int k q) := by rw [h3]; rfl
    rw [List.getElem?_take, if_pos (by omega), List.getElem?_drop, Nat.add_zero] at h4
    simpa using h4
  rw [World.var?_cell hg hv i, hc, ← hq, List.getD_eq_getElem?_getD, List.getElem?_eq_getElem (by omega)]
  rfl
theorem g0 : Tryd.prog.globalNamed "loop.example/wellhead/impl.shaStep" = some 0 := by kernel_rfl
theorem t0 : (Tryd.prog.globals[0]?).map (·.type) = some 62 := by kernel_rfl
/-- What the condition gives: the tables lie in the world. -/
theorem gl_of_laid {W : World} (h : laidMetH Tryd.prog Rows.fnHashSumRow.laid W) : GlW EKs W [] := by
  rw [MakeChecks.laidMetH_plain _ _ _ (by kernel_rfl)] at h
  obtain ⟨ps, ⟨g0, t0, cs0, f0, p0, q0, hg0, ht0, hv0, hd0, _, _⟩, _, _⟩ := h
  obtain rfl := Option.some.inj (fnHashSum.g0.symm.trans hg0)
  obtain rfl := Option.some.inj (fnHashSum.t0.symm.trans ht0)
  intro n k xs hm
  simp only [EKs, List.mem_cons, List.not_mem_nil, or_false, Prod.mk.injEq] at hm
  obtain ⟨rfl, rfl, rfl⟩ := hm
  · have hc := table_cells (tab := tab0) fnHashSum.g0 hv0 Tryd.underlying62 Tryd.underlying55 (by kernel_rfl) rfl hd0
    exact ⟨⟨World.block_lt_of_cell? W ⟨0, 0, none⟩ (hc 0 (by decide)), by simp⟩, hc⟩
/-- The door's own heap meets the condition. -/
theorem door_met (os : Os) (args : Array Value) : laidMetH Tryd.prog Rows.fnHashSumRow.laid ((World.doorLaid Tryd.prog 2000 os).forCall (fun _ _ => 0) ⟨#[], args, []⟩).memory :=
  laidMetH_of_parts3 (fuel := 8) (laidMet_of_run' 8 (by kernel_rfl) (by kernel_rfl)) (by kernel_rfl) (by kernel_rfl)
set_option maxRecDepth 100000 in
theorem lifted (os : Os) (started : os.Started) (H : Type) (enc : TypeId × Value → H) :
    ReturnsInHanded {} Tryd.checked os 4 .any (fun w args => (Rows.fnHashSumSpec.pre enc Tryd.prog Tryd.f4 [] false w args ∧ laidMetH Tryd.prog Rows.fnHashSumRow.laid w) ∧ sizedMet enc Tryd.prog Tryd.f4 (OpenSpec.ofChange Rows.fnHashSumSpec) false w args)
      (Rows.fnHashSumSpec.post enc Tryd.prog Tryd.f4 false true false false) := by
  refine returnsInHanded_of_change_and (C := Tryd.checked) (X := fun w _ => laidMetH Tryd.prog Rows.fnHashSumRow.laid w) (fun _ _ _ hh h => h.of_heap hh) own started (by kernel_rfl) Tryd.func4
    (ChangeSpec.witness_shaped (enc := enc) (C := Tryd.checked) (os := os) (X := fun w _ => laidMetH Tryd.prog Rows.fnHashSumRow.laid w) false (World.doorLaid Tryd.prog 2000 os) #[.slice none 0 0] 8 rfl (World.shaped_of_RefB (by kernel_rfl) (by kernel_rfl)) (by kernel_rfl) (by kernel_rfl) (by kernel_rfl) (door_met os _)) ?_
  intro W base args ds gs before hval0 hW _ _ hL _
  have hval : ∀ (j : Nat) t v, Tryd.f4.params[j]? = some t → args[j]? = some v → Value.okWide Tryd.prog W .any base t v := hval0
  have hW' := hW
  obtain ⟨p, q, hA0, hV, rfl, hfz, hnd⟩ := hW
  have hA : DataW.TrodAll enc Tryd.prog W 0 (fun _ => true) true Tryd.f4.params.toList args.toList ds p := hA0
  rw [Tryd.params4] at hA hval
  obtain ⟨v0, vs0, d0, ds0, p0, q0, hargs, rfl, rfl, h0, r0⟩ := trodAll_cons hA
  obtain ⟨rfl, rfl, rfl⟩ := trodAll_nil r0
  obtain rfl : args = #[v0] := by cases args; simp_all
  have hV1 : DataW.TrodVars enc Tryd.prog W (fun _ => true) Rows.fnHashSumSpec.vars gs q := hV
  obtain ⟨gv, tv, csv, fv, dv, pv, rfl, _⟩ := trodVars_one hV
  have k0 := h0
  have lt0 : ∀ x ∈ p0, x.block < W.heap.size := by obtain ⟨m, hm⟩ := k0; exact DataW.trod_lt m _ _ _ hm
  obtain ⟨x0, K0, a0, e0, g0, g0b⟩ := arg_slice (rdg_ints .u8 Tryd.underlying24 (by kernel_rfl) Tryd.underlying5 (by kernel_rfl)) Tryd.underlying24 (hval 0 24 v0 rfl rfl) h0
  cases e0
  clear hA0 hval0
  have hpre : (true) = true := by
    first | rfl | (simp only [Bool.and_eq_true]; exact trivial) | exact rfl
  have hS := (K_laws_FnHashSum 4 [Bs a0] ⟨true, [B true], [], .fresh⟩ (by kernel_rfl) hpre).2.1 rfl
  have hC := hS W (inW W) (fun _ => False) [v0] [] (.c K0 .nil) List.nodup_nil (fun _ h => h) (fun _ h => h.elim) (gl_of_laid hL)
  refine hC.mono fun e W' hpost => ?_
  obtain ⟨v, rfl, hch, G', _, _, vs, rfl, hall⟩ := hpost
  have bel : Below W.heap.size W W' := ⟨hch.os, hch.tape, hch.output, hch.size, fun j hj => hch.block j hj (by simp)⟩
  have hv : tupV vs = .bool true := by
    cases hall with
    | cons h1 t1 => cases t1; exact h1
  rw [hv]
  exact ⟨_, rfl, _, _, _, [], _, _, hW', trodAll_mk1 (shut_bool Tryd.underlying4 _), (trodAll_cons_mk (Below.trod laidOut (by kernel_rfl) (of_decide_eq_true (by kernel_rfl)) k0 bel lt0) trodAll_mk0), Below.trodVars laidOut bel (by kernel_rfl) hV1, bel.frame _, fun h => by cases h⟩
theorem over : Rows.fnHashSumRow.holds Tryd.pinned (OpenSpec.ofChange Rows.fnHashSumSpec) :=
  OpenClaim.holds_of_wide 4 Tryd.f4 rfl rfl rfl rfl rfl rfl rfl ⟨rfl, rfl, rfl, rfl, rfl⟩ rfl rfl rfl rfl rfl (by kernel_rfl) Tryd.func4 (by kernel_rfl)
    (of_decide_eq_true (by kernel_rfl)) (by unfold Func.isWrapper; first | (rw [if_pos (by decide +kernel)]; kernel_rfl) | (rw [if_neg (by decide +kernel)]; exact ⟨rfl, rfl⟩))
    (fun os started H enc _ => lifted os started H enc)
theorem proved : Rows.FnHashSumCardSaid :=
  Claim7.holds_tied_plain_at .later [] [.data] true (true, "2eb39a7ae7b67c5d61c8d297bed1475fb806bd1538127287c4fed8864d978a52") true
    over (fun _ h => by cases h) (by kernel_rfl) (fun _ h => by cases h) fnHashSum_row_tie rfl ⟨rfl, rfl⟩ (by kernel_rfl) rfl
    (fun f fn hf hfn => by
      obtain rfl : f = 4 := Option.some.inj ((show Tryd.prog.funcNamed "loop.example/wellhead/laws.FnHashSum" = some 4 by kernel_rfl).symm.trans hf) |>.symm
      obtain rfl : fn = Tryd.f4 := (Option.some.inj (Tryd.func4.symm.trans hfn)).symm
      exact ⟨by kernel_rfl, fun j t ht => by
        rw [Tryd.params4] at ht
        have hm : t ∈ [24] := by simpa using Array.mem_of_getElem? ht
        have hall : ([24].all fun u => !Tryd.prog.wantsStandIn u) = true := by kernel_rfl
        exact (show Tryd.prog.wantsStandIn t = false by simpa using List.all_eq_true.1 hall t hm)⟩)
    (by kernel_rfl)
#print axioms proved
end Go.Proofs.YtbgheffgkncpgaaDoor.fnHashSum
namespace Go.Proofs.YtbgheffgkncpgaaDoor
/-- The card, under a short name, for the claim. -/
theorem fnHashSum_holds : Rows.FnHashSumCardSaid := fnHashSum.proved
end Go.Proofs.YtbgheffgkncpgaaDoor
