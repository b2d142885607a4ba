/- The statement FnExactPlanReadCardSaid: for every input the law returns true, and each argument reads behind the call as it read before; what the row lists of package variables is tied to the program's text by the given tie. Conditions: none beside those of the given statement. -/
import Derived.Test.YtbgheffgkncpgaaDoorRows
import Derived.Test.YtbgheffgkncpgaaDoorCards
import Derived.Test.YtbgheffgkncpgaaDoorTie
import Derived.Test.YtbgheffgkncpgaaDoorKqLFnExactPlanRead
import Derived.Test.YtbgheffgkncpgaaDoorVxD
import Derived.WalkKit
import Derived.ProofKit
import Derived.OpenShut
import Derived.ShutString
import Derived.ChangeOld
import Derived.ChangeVars
import Derived.OpenVars
import Derived.Below
import Derived.SizedLaws
import Derived.LaidMore
import Derived.Stop.Joined
import Derived.SevenTiedAt
import Derived.Lib.LaidTab
import Derived.HandedShaped
import Derived.Shelf.Vars
namespace Go.Proofs.YtbgheffgkncpgaaDoor.fnExactPlanRead
open Go.ChangeShapes Go.WideShapes Go.ChangeAt Go.RowKit Go Vx Vx.N Go.Proofs.YtbgheffgkncpgaaDoor.V
open Go.ChangeMaps (open_string shut_string)
set_option linter.unusedVariables false
theorem own : ownKnob Tryd.prog.godebug = none := by kernel_rfl
theorem laidOut : laidOutB Tryd.prog = true := by kernel_rfl
theorem arg_str {H : Type} {enc : TypeId × Value → H} {P : Program} {t : TypeId} {r : Reach} {W : World} {sp : Nat → Bool} {hd : Bool} {b : Nat} {v : Value} {dd : DataW H} {p : List MemPlace}
    (ht : P.underlying t = some .string) (hv : Value.okWide P W r b t v) (hx : DataW.Trod enc P W 0 sp hd t v dd p) : ∃ s : ByteArray, v = .string s ∧ s.size ≤ maxLen := by
  obtain ⟨s, rfl⟩ := okWide_string ht hv
  obtain ⟨fuel, hf⟩ := hx
  obtain ⟨m, hm, _, hw⟩ := DataW.trod_string ht hf
  have hm : [Value.string s] = [Value.string m] := hm
  cases hm
  exact ⟨s, rfl, hw⟩
/-- A variable's cells in the heap. -/
theorem var_heap {P : Program} {W : World} {n : String} {g : Nat} {cs : Array Value} (hg : P.globalNamed n = some g) (hv : W.var? P n = some cs) : ∃ t fz, W.heap[g]? = some (.cells cs t fz) := by
  unfold World.var? at hv
  rw [hg, Option.bind_some] at hv
  split at hv
  · rename_i h
    cases hv
    exact ⟨_, _, h⟩
  · cases hv
theorem heap_lt {W : World} {g : Nat} {o : Obj} (h : W.heap[g]? = some o) : g < W.heap.size := (Array.getElem?_eq_some_iff.1 h).1
/-- The wrap with a condition of the row's own and the world's shape. -/
theorem handed_and_shaped {H : Type} {enc : TypeId × Value → H} {a : Assume} {C : Checked} {os : Os} {f : FuncId} {fn : Func} {s : ChangeSpec} {conds : List PathCond} {apart fresh handsOn again : Bool} {X : World → Array Value → Prop}
    (hX : ∀ (w w' : World) (args : Array Value), w.heap = w'.heap → X w args → X w' args)
    (own : ownKnob C.prog.godebug = none) (started : os.Started) (noInit : C.prog.inits.idxOf? f = none) (hfn : C.prog.funcs[f]? = some fn)
    (witness : ∃ (w : World) (tape : Tape) (i : Input), w.os = os ∧ (w.forCall tape i).Shaped C.prog ∧ i.vars = [] ∧ Input.okWide C.prog (w.forCall tape i) .any w.heap.size f i ∧
      ((s.pre enc C.prog fn conds apart (w.forCall tape i).memory i.args ∧ X (w.forCall tape i).memory i.args) ∧ sizedMet enc C.prog fn (OpenSpec.ofChange s) apart (w.forCall tape i).memory i.args) ∧ a.holds C.prog (lone (Frame.enter C.prog f i.args .normal) [] (w.forCall tape i)))
    (contract : ∀ (W : World) (base : Nat) (args : Array Value) (ds gs : List (DataW H)) (before : List MemPlace),
      (∀ (j : Nat) t v, fn.params[j]? = some t → args[j]? = some v → Value.okWide C.prog W .any base t v) →
      DataW.Whole enc C.prog fn.params.toList s.vars apart W args.toList ds gs before →
      conds.all (PathCond.test C.prog ⟨fn.params.toList, ds, s.plain.varTypes C.prog, gs⟩) = true →
      (DataW.weightsEach C.prog (fn.params.toList ++ s.plain.varTypes C.prog) (ds ++ gs)).all (· ≤ reachBytes) = true → X W args → W.ShapedOpen C.prog →
      a.holds C.prog (lone (Frame.enter C.prog f args .normal) [] W) →
      Calls C.prog f args W fun e W' => ∃ v, e = .returned v ∧ s.post enc C.prog fn apart fresh handsOn again W args v W') :
    ReturnsInHanded a C os f .any (fun w args => (s.pre enc C.prog fn conds apart w args ∧ X w args) ∧ sizedMet enc C.prog fn (OpenSpec.ofChange s) apart w args) (s.post enc C.prog fn apart fresh handsOn again) := by
  refine returnsInHanded_of_calls own started noInit witness ?_
  intro w tape i _ hsh _ hok hpre hholds
  obtain ⟨_, _, _, fn', hfn', _, _, _, _, hval⟩ := hok
  have e : fn' = fn := Option.some.inj (hfn'.symm.trans hfn)
  subst e
  obtain ⟨⟨⟨ds, gs, before, hw, hc⟩, hx⟩, hz⟩ := hpre
  have hw' := DataW.Whole.of_heap (w' := w.forCall tape i) (by rfl) hw
  refine (contract (w.forCall tape i) w.heap.size i.args ds gs before hval hw' hc (hz.weights hw) (hX _ _ _ (by rfl) hx) hsh hholds).mono fun e W' ⟨v, he, hp⟩ => ?_
  subst he
  exact ChangeSpec.post_blind hp
theorem one_arr {cs : Array Value} {v : Value} (h : cs.toList = [v]) : cs = #[v] := by
  cases cs
  cases h
  rfl
theorem g1 : Tryd.prog.globalNamed "internal/bytealg.MaxLen" = some 1 := by kernel_rfl
theorem t1 : (Tryd.prog.globals[1]?).map (·.type) = some 3 := by kernel_rfl
theorem g3 : Tryd.prog.globalNamed "strconv.ErrSyntax" = some 3 := by kernel_rfl
theorem t3 : (Tryd.prog.globals[3]?).map (·.type) = some 70 := by kernel_rfl
theorem g4 : Tryd.prog.globalNamed "strconv.ErrRange" = some 4 := by kernel_rfl
theorem t4 : (Tryd.prog.globals[4]?).map (·.type) = some 70 := by kernel_rfl
theorem g2 : Tryd.prog.globalNamed "internal/strconv.uint64pow10" = some 2 := by kernel_rfl
theorem t2 : (Tryd.prog.globals[2]?).map (·.type) = some 101 := by kernel_rfl
/-- What the condition gives: the tables lie in the world. -/
theorem gl_of_laid {W : World} (h : laidMetH Tryd.prog Rows.fnExactPlanReadRow.laid W) (hsh : W.ShapedOpen Tryd.prog) : GlW EKs W [] := by
  rw [MakeChecks.laidMetH_plain _ _ _ (by kernel_rfl)] at h
  obtain ⟨ps, ⟨g7, t7, cs7, f7, p7, q7, hg7, ht7, hv7, hd7, ⟨g8, t8, cs8, f8, p8, q8, hg8, ht8, hv8, hd8, ⟨g2, t2, cs2, f2, p2, q2, hg2, ht2, hv2, hd2, ⟨g6, t6, cs6, f6, p6, q6, hg6, ht6, hv6, hd6, ⟨g4, t4, cs4, f4, p4, q4, hg4, ht4, hv4, hd4, ⟨g3, t3, cs3, f3, p3, q3, hg3, ht3, hv3, hd3, ⟨g5, t5, cs5, f5, p5, q5, hg5, ht5, hv5, hd5, _, _⟩, _⟩, _⟩, _⟩, _⟩, _⟩, _⟩, _, _⟩ := h
  obtain rfl := Option.some.inj (fnExactPlanRead.g2.symm.trans hg2)
  obtain rfl := Option.some.inj (fnExactPlanRead.t2.symm.trans ht2)
  obtain rfl := Option.some.inj (fnExactPlanRead.g3.symm.trans hg3)
  obtain rfl := Option.some.inj (fnExactPlanRead.t3.symm.trans ht3)
  obtain rfl := Option.some.inj (fnExactPlanRead.g4.symm.trans hg4)
  obtain rfl := Option.some.inj (fnExactPlanRead.t4.symm.trans ht4)
  refine ⟨fun n k xs hm => ?_, fun n b hm => ?_⟩
  rotate_left
  · simp only [EKs, List.mem_cons, List.not_mem_nil, or_false, Prod.mk.injEq] at hm
    rcases hm with ⟨rfl, rfl⟩ | ⟨rfl, rfl⟩ | ⟨rfl, rfl⟩
    · have h0 : ((begin Tryd.prog (fun _ _ => 0) default).world.heap[1]?).bind Obj.row? = some (#[.int .i64 0], 3) := by kernel_rfl
      obtain ⟨cs, hh, hs, _⟩ := hsh.1 1 #[.int .i64 0] 3 (of_decide_eq_true (by kernel_rfl)) h0
      obtain ⟨m, hm⟩ := cell_of_shapedOpen_int (P := Tryd.prog) (g := 1) (t := 3) (zero := #[.int .i64 0]) (k := .i64) hsh (of_decide_eq_true (by kernel_rfl)) h0 rfl (by kernel_rfl) (by kernel_rfl) Tryd.underlying3
      refine ⟨⟨heap_lt hh, by simp⟩, .int .i64 m, 3, (0, 0), ?_, m, rfl⟩
      · rw [hh]
        have hc : cs = #[.int .i64 m] := by
          unfold World.cell? at hm
          rw [hh] at hm
          have hm : cs[0]? = some (.int .i64 m) := hm
          have hs : cs.size = 1 := hs
          apply Array.ext_getElem?
          intro i
          cases i with
          | zero => exact hm
          | succ i => rw [Array.getElem?_eq_none (by omega), Array.getElem?_eq_none (by show 1 ≤ i + 1; omega)]
        rw [hc]
    · obtain ⟨t, fz, hp⟩ := var_heap fnExactPlanRead.g3 hv3
      obtain ⟨_, u, v, e, _, _⟩ := iface_of_trod Tryd.underlying70 hd3
      rw [one_arr e] at hp
      exact ⟨⟨heap_lt hp, by simp⟩, _, t, fz, hp, u, v, rfl⟩
    · obtain ⟨t, fz, hp⟩ := var_heap fnExactPlanRead.g4 hv4
      obtain ⟨_, u, v, e, _, _⟩ := iface_of_trod Tryd.underlying70 hd4
      rw [one_arr e] at hp
      exact ⟨⟨heap_lt hp, by simp⟩, _, t, fz, hp, u, v, rfl⟩
  simp only [EKs, List.mem_cons, List.not_mem_nil, or_false, Prod.mk.injEq] at hm
  obtain ⟨rfl, rfl, rfl⟩ := hm
  · obtain ⟨t, fz, hp⟩ := var_heap fnExactPlanRead.g2 hv2
    have hc : cs2.toList = tab2.map fun z => Value.int _ z := Go.Lib.cells_of_tab Tryd.underlying101 Tryd.underlying61 (by kernel_rfl) (by kernel_rfl) hd2
    refine ⟨⟨heap_lt hp, by simp⟩, t, fz, ?_⟩
    rw [hp, ← hc]
def litV : DataW Unit → Value
  | .lit (.int k x) => .int k x
  | _ => undef
def firstCells : Array Value := match Go.Pinned.utf8First with
  | .agg xs => (xs.map litV).toArray
  | _ => #[]
def putFirst : Obj → Obj
  | .cells _ t fz => .cells firstCells t fz
  | o => o
/-- The door's heap, and the table that the dump leaves out. -/
noncomputable def ws (os : Os) : World := { World.doorLaid Tryd.prog 2000 os with heap := (World.doorLaid Tryd.prog 2000 os).heap.modify 5 putFirst }
/-- The door's own heap meets the condition. -/
theorem door_met (os : Os) (args : Array Value) : laidMetH Tryd.prog Rows.fnExactPlanReadRow.laid ((ws os).forCall (fun _ _ => 0) ⟨#[], args, []⟩).memory :=
  laidMetH_of_parts3 (fuel := 8) (laidMet_of_run' 8 (by kernel_rfl) (by kernel_rfl)) (by kernel_rfl) (by kernel_rfl)
set_option maxRecDepth 100000 in
theorem lifted (os : Os) (started : os.Started) (H : Type) (enc : TypeId × Value → H) :
    ReturnsInHanded {} Tryd.checked os 6 .any (fun w args => (Rows.fnExactPlanReadSpec.pre enc Tryd.prog Tryd.f6 [] false w args ∧ laidMetH Tryd.prog Rows.fnExactPlanReadRow.laid w) ∧ sizedMet enc Tryd.prog Tryd.f6 (OpenSpec.ofChange Rows.fnExactPlanReadSpec) false w args)
      (Rows.fnExactPlanReadSpec.post enc Tryd.prog Tryd.f6 false true false false) := by
  refine handed_and_shaped (C := Tryd.checked) (X := fun w _ => laidMetH Tryd.prog Rows.fnExactPlanReadRow.laid w) (fun _ _ _ hh h => h.of_heap hh) own started (by kernel_rfl) Tryd.func6
    (ChangeSpec.witness_shaped (enc := enc) (C := Tryd.checked) (os := os) (X := fun w _ => laidMetH Tryd.prog Rows.fnExactPlanReadRow.laid w) false (ws os) #[.string ⟨#[]⟩] 8 rfl (World.shaped_of_RefB (by kernel_rfl) (by kernel_rfl)) (by kernel_rfl) (by kernel_rfl) (by kernel_rfl) (door_met os _)) ?_
  intro W base args ds gs before hval0 hW _ _ hL hsh _
  have hval : ∀ (j : Nat) t v, Tryd.f6.params[j]? = some t → args[j]? = some v → Value.okWide Tryd.prog W .any base t v := hval0
  have hW' := hW
  obtain ⟨p, q, hA0, hV, rfl, hfz, hnd⟩ := hW
  have hA : DataW.TrodAll enc Tryd.prog W 0 (fun _ => true) true Tryd.f6.params.toList args.toList ds p := hA0
  rw [Tryd.params6] at hA hval
  obtain ⟨v0, vs0, d0, ds0, p0, q0, hargs, rfl, rfl, h0, r0⟩ := trodAll_cons hA
  obtain ⟨rfl, rfl, rfl⟩ := trodAll_nil r0
  obtain rfl : args = #[v0] := by cases args; simp_all
  have hV : DataW.TrodVars enc Tryd.prog W (fun _ => true) [] gs q := hV
  obtain ⟨rfl, rfl⟩ := trodVars_none hV
  have k0 := h0
  have lt0 : ∀ x ∈ p0, x.block < W.heap.size := by obtain ⟨m, hm⟩ := k0; exact DataW.trod_lt m _ _ _ hm
  obtain ⟨a0, rfl, g0⟩ := arg_str Tryd.underlying9 (hval 0 9 v0 rfl rfl) h0
  clear hA0 hval0
  have hpre : (true) = true := by
    first | rfl | (simp only [Bool.and_eq_true]; exact trivial) | exact rfl
  have hS := (K_laws_FnExactPlanRead 6 [T a0] ⟨true, [B true], [], .fresh⟩ (by kernel_rfl) hpre).2.1 rfl
  have hC := hS W (inW W) (fun _ => False) [.string a0] [] (.c rfl .nil) List.nodup_nil (fun _ h => h) (fun _ h => h.elim) (gl_of_laid hL hsh)
  refine hC.mono fun e W' hpost => ?_
  obtain ⟨v, rfl, hch, G', _, _, vs, rfl, hall⟩ := hpost
  have bel : Below W.heap.size W W' := ⟨hch.os, hch.tape, hch.output, hch.size, fun j hj => hch.block j hj (by simp)⟩
  have hv : tupV vs = .bool true := by
    cases hall with
    | cons h1 t1 => cases t1; exact h1
  rw [hv]
  exact ⟨_, rfl, _, _, _, [], _, _, hW', trodAll_mk1 (shut_bool Tryd.underlying4 _), (trodAll_cons_mk (Below.trod laidOut (by kernel_rfl) (of_decide_eq_true (by kernel_rfl)) k0 bel lt0) trodAll_mk0), rfl, bel.frame _, fun h => by cases h⟩
theorem over : Rows.fnExactPlanReadRow.holds Tryd.pinned (OpenSpec.ofChange Rows.fnExactPlanReadSpec) :=
  OpenClaim.holds_of_wide 6 Tryd.f6 rfl rfl rfl rfl rfl rfl rfl ⟨rfl, rfl, rfl, rfl, rfl⟩ rfl rfl rfl rfl rfl (by kernel_rfl) Tryd.func6 (by kernel_rfl)
    (of_decide_eq_true (by kernel_rfl)) (by unfold Func.isWrapper; first | (rw [if_pos (by decide +kernel)]; kernel_rfl) | (rw [if_neg (by decide +kernel)]; exact ⟨rfl, rfl⟩))
    (fun os started H enc _ => lifted os started H enc)
theorem proved : Rows.FnExactPlanReadCardSaid :=
  Claim7.holds_tied_plain_at .later [] [.data, .data, .data, .data, .sentinel, .sentinel, .pinned] true (true, "2eb39a7ae7b67c5d61c8d297bed1475fb806bd1538127287c4fed8864d978a52") true
    over (fun _ h => by cases h) (by kernel_rfl) (fun _ h => by cases h) fnExactPlanRead_row_tie rfl ⟨rfl, rfl⟩ (by kernel_rfl) rfl
    (fun f fn hf hfn => by
      obtain rfl : f = 6 := Option.some.inj ((show Tryd.prog.funcNamed "loop.example/wellhead/laws.FnExactPlanRead" = some 6 by kernel_rfl).symm.trans hf) |>.symm
      obtain rfl : fn = Tryd.f6 := (Option.some.inj (Tryd.func6.symm.trans hfn)).symm
      exact ⟨by kernel_rfl, fun j t ht => by
        rw [Tryd.params6] at ht
        have hm : t ∈ [9] := by simpa using Array.mem_of_getElem? ht
        have hall : ([9].all fun u => !Tryd.prog.wantsStandIn u) = true := by kernel_rfl
        exact (show Tryd.prog.wantsStandIn t = false by simpa using List.all_eq_true.1 hall t hm)⟩)
    (by kernel_rfl)
#print axioms proved
end Go.Proofs.YtbgheffgkncpgaaDoor.fnExactPlanRead
namespace Go.Proofs.YtbgheffgkncpgaaDoor
/-- The card, under a short name, for the claim. -/
theorem fnExactPlanRead_holds : Rows.FnExactPlanReadCardSaid := fnExactPlanRead.proved
end Go.Proofs.YtbgheffgkncpgaaDoor
