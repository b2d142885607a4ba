/- What functions come to, and that they do so; conditions: those that each theorem states. -/
import Derived.Test.YtbolcmcjniiieaaKgXor
import Derived.WalkKit
import Derived.ProofKit
import Derived.Lib.Walk
import Derived.Lib.SliceRun
import Derived.Lib.JoinLaws
import Derived.Lib.AppendZerosOnto
import Derived.Lib.Overlaps
import Derived.Laws.Externs
import Derived.Laws.IdiomCopy
import Derived.Laws.NewBlocks
import Derived.Shelf.RegionOpenPlain
import Derived.Maps.AppendAt
set_option linter.unusedVariables false
set_option linter.unusedSimpArgs false
namespace Go.Proofs.Ytbolcmcjniiieaa.V
open Go Vx Vx.N
/-! ### slices.Insert at a slice of equations: walked by hand -/
section
open Go.RowKit Go.Lib
theorem wp_copy_runV {P : Program} (w : World) {o : Oper} {a : Act} {K : Act → World → Prop} {Q : Exit → Act → World → Prop} (d s : Operand) (t t' : TypeId)
    (ho : o.op = .call { callee := .builtin .copy, args := #[d, s], argTypes := #[t, t'] }) (v u : Value) (hd : a.eval d = v) (hs : a.eval s = u) {v' : Value} {w' : World}
    (hr : (Builtin.copy_ #[t, t'] o.type #[v, u]).run P w = .ok v' w') (h : K (a.put o.dst v') w') : o.wp P a w K Q := by
  unfold Oper.wp execOp
  simp only [ho, resolve, invoke, builtin, Sem.run_bind, Sem.run_pure, Result.andThen_ok, List.map_toArray, List.map_cons, List.map_nil, hd, hs, hr]
  exact h
theorem wpList_copy_runV {P : Program} (w : World) {ops : Array Oper} {rest : List Oper} {o : Oper} {a : Act} {Q : Exit → Act → World → Prop} (hgd : o.guard = none) (d s : Operand) (t t' : TypeId)
    (ho : o.op = .call { callee := .builtin .copy, args := #[d, s], argTypes := #[t, t'] }) (v u : Value) (hd : a.eval d = v) (hs : a.eval s = u) {v' : Value} {w' : World}
    (hr : (Builtin.copy_ #[t, t'] o.type #[v, u]).run P w = .ok v' w') (h : wpList P ops Q rest (a.put o.dst v') w') : wpList P ops Q (o :: rest) a w :=
  wpList_plain hgd fun _ hK => wp_copy_runV w d s t t' ho v u hd hs hr (hK _ _ h)
theorem step_copy_runV {P : Program} {ops : Array Oper} {o : Oper} {a : Act} {w : World} {K : Act → World → Prop} {Q : Exit → Act → World → Prop} {E : Prop}
    (hg : o.guard = none) (d x : Operand) (dT sT : TypeId) (hop : o.op = Op.call { callee := Callee.builtin Builtin.copy, args := #[d, x], argTypes := #[dT, sT] })
    (v u : Value) (hd : a.eval d = v) (hx : a.eval x = u) {v' : Value} {w' : World} (hr : (Builtin.copy_ #[dT, sT] o.type #[v, u]).run P w = .ok v' w') (hK : K (a.put o.dst v') w') :
    if Region.wanted o (yielded ops a.tmps) = true then Oper.wp P o a w K Q else E := by
  have hw : Region.wanted o (yielded ops a.tmps) = true := by simp [Region.wanted, hg]
  rw [if_pos hw]
  unfold Oper.wp
  simp [execOp, hop, resolve, invoke, builtin, hd, hx, hr, Result.andThen]
  exact hK
/-- A copy into a row, of elements of k cells. -/
theorem run_copy_rowK {P : Program} (w : World) (dT sT ty elem : TypeId) (g o dLen dCap : Nat) (a : Addr) (sLen sCap : Nat) (cur : Array Value) (t : TypeId) (cs : List Value) (n k : Nat)
    (hu : P.underlying dT = some (.slice elem)) (hs : (P.info? elem).map (·.size) = some k)
    (hg : w.heap[g]? = some (.cells cur t (0, 0))) (hn : n = Nat.min sLen dLen) (hl : cs.length = n * k)
    (hsrc : ∀ j v, cs[j]? = some v → w.cell? (a.add j) = some v) (hfit : o + cs.length ≤ cur.size) (h1 : ∀ v ∈ cs, v.oneCell' = true) :
    (Builtin.copy_ #[dT, sT] ty #[.slice (some ⟨g, o, none⟩) dLen dCap, .slice (some a) sLen sCap]).run P w =
      .ok (goInt n) (w.setRow g (cur.toList.take o ++ cs ++ cur.toList.drop (o + cs.length)).toArray) := by
  have hld := run_loadCells_list (P := P) w a cs hsrc
  have hst := run_storeCells_at P g o t cs 0 cur w hg (by simpa using hfit) h1
  rw [hl] at hld
  cases hq : P.info? elem with
  | none => simp [hq] at hs
  | some i =>
    have hi : i.size = k := by simpa [hq] using hs
    simp [Builtin.copy_, run_underlying hu, Builtin.lenOf, Builtin.firstCells, sizeOf, typeInfo, hq, hi, ← hn, hld, hst]
theorem list_take_mid {α : Type} (a b d : List α) (n m : Nat) (ha : a.length = n) (hb : b.length = m) : (a ++ b ++ d).take (n + m) = a ++ b := by
  rw [← ha, ← hb, ← List.length_append]; exact List.take_left
theorem toList_setIf (l : List Value) : l.toArray.toList = l := rfl
set_option maxHeartbeats 4000000 in
set_option maxRecDepth 100000 in
/-- There is room, and the place is ahead of the end: in place. -/
theorem insert_shift (b n c i vb vc : Nat) (cur vcur : Array Value) (tv : TypeId) (w : World) (hi : i < n) (hroom : n + 1 ≤ c) (hc63 : c ≤ 9223372036854775807) (hvb : vb ≠ b)
    (hb : w.heap[b]? = some (.cells cur 38 (0, 0))) (hcur : cur.size = c * 2) (hv : w.heap[vb]? = some (.cells vcur tv (0, 0))) (hvl : 2 ≤ vcur.size)
    (h1c : ∀ v ∈ cur.toList.take (n * 2), v.oneCell' = true) (h1v : ∀ v ∈ vcur.toList.take 2, v.oneCell' = true) :
    Calls Try.prog 65 #[.slice (some ⟨b, 0, none⟩) n c, .int .i64 i, .slice (some ⟨vb, 0, none⟩) 1 vc] w fun e w' =>
      e = .returned (.slice (some ⟨b, 0, none⟩) (n + 1) c) ∧ ∃ cur' : Array Value, w' = w.drew.setRow b cur' ∧ cur'.size = c * 2 ∧ cur'.toList.take ((n + 1) * 2) = cur.toList.take (i * 2) ++ vcur.toList.take 2 ++ (cur.toList.take (n * 2)).drop (i * 2) := by
  have hz2 : ¬ ((i : Int) = (n : Int)) := by omega
  have hsz : (Try.prog.info? 38).map (·.size) = some 2 := by kernel_rfl
  have hz9 : ∀ w, (Go.sizeOf 38).run Try.prog w = .ok 2 w := fun w => by
    have h0 : (Try.prog.info? 38).map (·.size) = some 2 := by kernel_rfl
    cases hq : Try.prog.info? 38 with
    | none => simp [hq] at h0
    | some x => have : x.size = 2 := by simpa [hq] using h0
                simp [Go.sizeOf, typeInfo, hq, this]
  have hsa : w.shape? vb = some (tv, vcur.size) := by simp [World.shape?, hv]
  have hsb : w.shape? b = some (38, cur.size) := by simp [World.shape?, hb]
  have hfa : w.frozen? ⟨vb, 0, none⟩ = false := by simp [World.frozen?, hv]
  have hfe : w.frozen? ⟨vb, vcur.size, none⟩ = false := by simp [World.frozen?, hv]
  have hov : ∀ lb cb, (callFunc 75 #[.slice (some ⟨vb, 0, none⟩) 1 vc, .slice (some ⟨b, (i + 1) * 2, none⟩) lb cb]).run Try.prog w = .ok (.value (.bool false)) w := fun lb cb => by
    rw [run_callFunc_extern Try.func75 (by kernel_rfl) (by kernel_rfl) (by kernel_rfl) (e := Extern.SlicesOverlaps.overlaps #[23, 23] #[4]) (by kernel_rfl),
      Lib.run_overlaps_apart w 23 4 38 Try.underlying23 2 hz9 ⟨vb, 0, none⟩ ⟨b, (i + 1) * 2, none⟩ 1 vc lb cb hvb tv 38 vcur.size cur.size hsa hsb (by omega) hfa hfe]
    rfl
  have mixed : Try.prog.follows Departure.mixedOrders = true := by kernel_rfl
  have hw1 : IntKind.i64.wrap ((i : Int) + (1 : Int)) = (i : Int) + 1 := by rw [IntKind.wrap_i64]; omega
  have hb1' : (0 : Int) ≤ (i : Int) + (1 : Int) := by omega
  have hin : i ≤ n := by omega
  have htn : ((i : Int) + (1 : Int)).toNat = i + 1 := by omega
  have hb2 : ¬ (c = i + 1) := by omega
  have hb3 : (i : Int) ≤ (n : Int) + (1 : Int) := by omega
  have hb4 : ¬ (c = i) := by omega
  obtain ⟨cs, hcs⟩ : ∃ cs, cs = (cur.toList.take (n * 2)).drop (i * 2) := ⟨_, rfl⟩
  have hcl : cs.length = (n - i) * 2 := by rw [hcs, List.length_drop, List.length_take, Array.length_toList]; omega
  obtain ⟨row1, hrow1⟩ : ∃ row1 : Array Value, row1 = (cur.toList.take ((i + 1) * 2) ++ cs ++ cur.toList.drop ((i + 1) * 2 + cs.length)).toArray := ⟨_, rfl⟩
  have hr1 : row1.size = c * 2 := by
    rw [hrow1]
    simp only [List.size_toArray, List.length_append, List.length_take, List.length_drop, Array.length_toList, hcl]
    omega
  obtain ⟨vs, hvs⟩ : ∃ vs, vs = vcur.toList.take 2 := ⟨_, rfl⟩
  have hvsl : vs.length = 2 := by rw [hvs, List.length_take, Array.length_toList]; omega
  obtain ⟨row2, hrow2⟩ : ∃ row2 : Array Value, row2 = (row1.toList.take (i * 2) ++ vs ++ row1.toList.drop (i * 2 + vs.length)).toArray := ⟨_, rfl⟩
  have hcp1 : ∀ ty dc sc, (Builtin.copy_ #[23, 23] ty #[.slice (some ⟨b, (i + 1) * 2, none⟩) (n - i) dc, .slice (some ⟨b, i * 2, none⟩) (n + 1 - i) sc]).run Try.prog w.drew = .ok (goInt ((n - i : Nat) : Int)) (w.drew.setRow b row1) := fun ty dc sc => by
    rw [hrow1]
    exact run_copy_rowK w.drew _ _ ty 38 b ((i + 1) * 2) (n - i) dc ⟨b, i * 2, none⟩ (n + 1 - i) sc cur 38 cs (n - i) 2 Try.underlying23 hsz hb (by simp only [Nat.min_def]; split <;> omega) hcl
      (fun j v hj => by
        rw [Addr.add_lit, cell_of_row w.drew b (i * 2 + j) cur 38 (0, 0) hb]
        rw [hcs, List.getElem?_drop, List.getElem?_take] at hj
        split at hj
        · simpa using hj
        · cases hj)
      (by rw [hcl]; omega) (fun v hv => h1c v (by rw [hcs] at hv; exact List.mem_of_mem_drop hv))
  obtain ⟨W1, hW1⟩ : ∃ W1, W1 = w.drew.setRow b row1 := ⟨_, rfl⟩
  rw [← hW1] at hcp1
  have hb1 : W1.heap[b]? = some (.cells row1 38 (0, 0)) := by rw [hW1]; exact setRow_heap w.drew b cur row1 38 (0, 0) hb
  have hv1 : W1.heap[vb]? = some (.cells vcur tv (0, 0)) := by rw [hW1, setRow_other w.drew b vb row1 hvb]; exact hv
  have hcp2 : ∀ ty dc, (Builtin.copy_ #[23, 23] ty #[.slice (some ⟨b, i * 2, none⟩) (n + 1 - i) dc, .slice (some ⟨vb, 0, none⟩) 1 vc]).run Try.prog W1 = .ok (goInt ((1 : Nat) : Int)) (W1.setRow b row2) := fun ty dc => by
    rw [hrow2]
    exact run_copy_rowK W1 _ _ ty 38 b (i * 2) (n + 1 - i) dc ⟨vb, 0, none⟩ 1 vc row1 38 vs 1 2 Try.underlying23 hsz hb1 (by simp only [Nat.min_def]; split <;> omega) hvsl
      (fun j v hj => by
        rw [Addr.add_lit, Nat.zero_add, cell_of_row W1 vb j vcur tv (0, 0) hv1]
        rw [hvs, List.getElem?_take] at hj
        split at hj
        · simpa using hj
        · cases hj)
      (by rw [hvsl, hr1]; omega) (fun v hv => h1v v (by rw [hvs] at hv; exact hv))
  have hfin : W1.setRow b row2 = w.drew.setRow b row2 := by rw [hW1, setRow_setRow]
  have hres : row2.size = c * 2 ∧ row2.toList.take ((n + 1) * 2) = cur.toList.take (i * 2) ++ vs ++ cs := by
    constructor
    · rw [hrow2]
      simp only [List.size_toArray, List.length_append, List.length_take, List.length_drop, Array.length_toList, hvsl, hr1]
      omega
    · have e1 : row1.toList.take (i * 2) = cur.toList.take (i * 2) := by
        rw [hrow1, toList_setIf, List.append_assoc, List.take_append_of_le_length (by rw [List.length_take, Array.length_toList]; omega), List.take_take]
        congr 1; omega
      have e2 : row1.toList.drop (i * 2 + 2) = cs ++ cur.toList.drop ((i + 1) * 2 + cs.length) := by
        rw [hrow1, toList_setIf, List.append_assoc, show i * 2 + 2 = (i + 1) * 2 by omega, List.drop_append_of_le_length (by rw [List.length_take, Array.length_toList]; omega), List.drop_take_self, List.nil_append]
      rw [hrow2, toList_setIf, hvsl, e1, e2, ← List.append_assoc]
      rw [show (n + 1) * 2 = (i * 2 + 2) + (n - i) * 2 by omega]
      exact list_take_mid (cur.toList.take (i * 2) ++ vs) cs _ _ _ (by rw [List.length_append, List.length_take, Array.length_toList, hvsl]; omega) hcl
  rw [← hvs, ← hcs]
  clear hW1 hrow1 hrow2 hcs hvs hb1 hv1 hr1 hsa hsb hcl hvsl
  go_enter Try.func65, Try.ntmps65
  go_wp2_with (simp only [hov])
  go_region_law_o (refine step_copy_runV rfl _ _ 23 23 rfl _ _ (by simp [Act.eval, Act.put]) (by simp [Act.eval, Act.put]) (hcp1 _ _ _) ?_)
  go_wp2_with (at_builtin; refine wpList_copy_runV _ rfl _ _ 23 23 rfl _ _ rfl rfl (hcp2 _ _) ?_)
  go_ret
  exact ⟨rfl, row2, rfl, hres.1, hres.2⟩
set_option maxHeartbeats 4000000 in
set_option maxRecDepth 100000 in
/-- There is no room, and the place is ahead of the end: a new row. -/
theorem insert_grow (b n c i vb vc : Nat) (cur vcur : Array Value) (tv : TypeId) (w : World) (hi : i < n) (hnc : n ≤ c) (hroom : c < n + 1) (hsmall : n < 1000000)
    (hb : w.heap[b]? = some (.cells cur 38 (0, 0))) (hcur : cur.size = c * 2) (hv : w.heap[vb]? = some (.cells vcur tv (0, 0))) (hvl : 2 ≤ vcur.size)
    (h1c : ∀ v ∈ cur.toList.take (n * 2), v.oneCell' = true) (h1v : ∀ v ∈ vcur.toList.take 2, v.oneCell' = true) :
    Calls Try.prog 65 #[.slice (some ⟨b, 0, none⟩) n c, .int .i64 i, .slice (some ⟨vb, 0, none⟩) 1 vc] w fun e w' =>
      ∃ G : Nat, e = .returned (.slice (some ⟨w.heap.size, 0, none⟩) (n + 1) G) ∧ n + 1 ≤ G ∧ G ≤ maxLen ∧ Below w.heap.size w w' ∧ ∃ cur' : Array Value, w'.heap[w.heap.size]? = some (.cells cur' 38 (0, 0)) ∧ cur'.size = G * 2 ∧ cur'.toList.take ((n + 1) * 2) = cur.toList.take (i * 2) ++ vcur.toList.take 2 ++ (cur.toList.take (n * 2)).drop (i * 2) := by
  have mixed : Try.prog.follows Departure.mixedOrders = true := by kernel_rfl
  have hz2 : ¬ ((i : Int) = (n : Int)) := by omega
  have hz3 : (c : Int) < (n : Int) + (1 : Int) := by omega
  have hinfo : (Try.prog.info? 38).map (fun i => (i.zero, i.size, i.bytes)) = some (some (.agg #[.slice none 0 0, .string ⟨#[]⟩]), 2, 40) := by kernel_rfl
  obtain ⟨i0, hi0, hzz⟩ := Option.map_eq_some_iff.1 hinfo
  simp only [Prod.mk.injEq] at hzz
  obtain ⟨hz0, hzs, hzb⟩ := hzz
  have hsz : (Try.prog.info? 38).map (·.size) = some 2 := by rw [hi0]; simp [hzs]
  have hbw : b < w.heap.size := (Array.getElem?_eq_some_iff.1 hb).1
  have hvw : vb < w.heap.size := (Array.getElem?_eq_some_iff.1 hv).1
  have hkk : (n : Int) + (1 : Int) - (i : Int) = ((n + 1 - i : Nat) : Int) := by omega
  have hik : i + (n + 1 - i) = n + 1 := by omega
  obtain ⟨os, hos⟩ : ∃ os, os = cur.toList.take (i * 2) := ⟨_, rfl⟩
  have hol : os.length = i * 2 := by rw [hos, List.length_take, Array.length_toList]; omega
  have hold : (Builtin.firstCells i0.size i (.slice (some ⟨b, 0, none⟩) i c)).run Try.prog w.drew = .ok os.toArray w.drew := by
    rw [hzs]
    exact run_firstCells_some w.drew 2 i ⟨b, 0, none⟩ i c os hol (fun j v hj => by
      rw [Addr.add_lit, Nat.zero_add, cell_of_row w.drew b j cur 38 (0, 0) hb]
      rw [hos, List.getElem?_take] at hj
      split at hj
      · simpa using hj
      · cases hj)
  obtain ⟨G, hG⟩ : ∃ G, G = grownCap w (n + 1) c 38 := ⟨_, rfl⟩
  obtain ⟨ROW, hROW⟩ : ∃ ROW : Array Value, ROW = os.toArray ++ Builtin.zeroCells (Value.agg #[.slice none 0 0, .string ⟨#[]⟩]).cells (n + 1 - i) ++ Builtin.zeroCells (Value.agg #[.slice none 0 0, .string ⟨#[]⟩]).cells (G - (n + 1)) := ⟨_, rfl⟩
  have hrz : ∀ ty, (Builtin.append_ #[23, 3] ty #[.slice (some ⟨b, 0, none⟩) i c, .int .i64 ((n : Int) + (1 : Int) - (i : Int))]).run Try.prog w =
      .ok (.slice (some ⟨w.heap.size, 0, none⟩) (n + 1) G) (w.drew.alloc (.cells ROW 38)) := fun ty => by
    have h := Lib.run_append_grow_zeros w 23 3 ty 38 i0 _ .i64 .i64 Try.underlying23 Try.underlying3 hi0 hz0 (some ⟨b, 0, none⟩) i c os hold (n + 1 - i) (by omega) (by omega) (by omega) (by omega) (by rw [hzb]; omega) (by rw [hzb, hik]; exact growslice_fits hroom (by omega))
    rw [hik] at h
    rw [hkk, hROW, hG]
    exact h
  have hGn : n + 1 ≤ G := by rw [hG]; exact grownCap_ge w _ _ _
  have hGm : G ≤ maxLen := by rw [hG]; exact grownCap_le_maxLen w (n + 1) c 38 (by unfold maxLen; omega)
  have hG63 : G ≤ 9223372036854775807 := by have h := hGm; unfold maxLen at h; omega
  have hzc : (Value.agg #[.slice none 0 0, .string ⟨#[]⟩]).cells.size = 2 := rfl
  have hRl : ROW.size = G * 2 := by
    rw [hROW, Array.size_append, Array.size_append, size_zeroCells, size_zeroCells, hzc, List.size_toArray, hol]
    omega
  have hRt : ROW.toList.take (i * 2) = os := by
    rw [hROW, Array.toList_append, Array.toList_append, List.append_assoc, ← hol]
    exact List.take_left
  obtain ⟨cs, hcs⟩ : ∃ cs, cs = (cur.toList.take (n * 2)).drop (i * 2) := ⟨_, rfl⟩
  have hcl : cs.length = (n - i) * 2 := by rw [hcs, List.length_drop, List.length_take, Array.length_toList]; omega
  obtain ⟨vs, hvs⟩ : ∃ vs, vs = vcur.toList.take 2 := ⟨_, rfl⟩
  have hvsl : vs.length = 2 := by rw [hvs, List.length_take, Array.length_toList]; omega
  obtain ⟨row1, hrow1⟩ : ∃ row1 : Array Value, row1 = (ROW.toList.take (i * 2) ++ vs ++ ROW.toList.drop (i * 2 + vs.length)).toArray := ⟨_, rfl⟩
  have hr1 : row1.size = G * 2 := by
    rw [hrow1]
    simp only [List.size_toArray, List.length_append, List.length_take, List.length_drop, Array.length_toList, hvsl, hRl]
    omega
  obtain ⟨row2, hrow2⟩ : ∃ row2 : Array Value, row2 = (row1.toList.take ((i + 1) * 2) ++ cs ++ row1.toList.drop ((i + 1) * 2 + cs.length)).toArray := ⟨_, rfl⟩
  have hA : ∀ W : World, W.heap = (w.alloc (.cells ROW 38)).heap → ∀ ty dc, (Builtin.copy_ #[23, 23] ty #[.slice (some ⟨w.heap.size, i * 2, none⟩) (n + 1 - i) dc, .slice (some ⟨vb, 0, none⟩) 1 vc]).run Try.prog W = .ok (goInt ((1 : Nat) : Int)) (W.setRow w.heap.size row1) := fun W hW ty dc => by
    have hb1 : W.heap[w.heap.size]? = some (.cells ROW 38 (0, 0)) := by rw [hW]; exact heap_alloc_new w _
    have hv1 : W.heap[vb]? = some (.cells vcur tv (0, 0)) := by rw [hW, heap_alloc_old w _ hvw]; exact hv
    rw [hrow1]
    exact run_copy_rowK W _ _ ty 38 w.heap.size (i * 2) (n + 1 - i) dc ⟨vb, 0, none⟩ 1 vc ROW 38 vs 1 2 Try.underlying23 hsz hb1 (by simp only [Nat.min_def]; split <;> omega) hvsl
      (fun j v hj => by
        rw [Addr.add_lit, Nat.zero_add, cell_of_row W vb j vcur tv (0, 0) hv1]
        rw [hvs, List.getElem?_take] at hj
        split at hj
        · simpa using hj
        · cases hj)
      (by rw [hvsl, hRl]; omega) (fun v hv => h1v v (by rw [hvs] at hv; exact hv))
  have hB : ∀ W : World, W.heap = ((w.alloc (.cells ROW 38)).setRow w.heap.size row1).heap → ∀ ty dc sc, (Builtin.copy_ #[23, 23] ty #[.slice (some ⟨w.heap.size, (i + 1) * 2, none⟩) (n - i) dc, .slice (some ⟨b, i * 2, none⟩) (n - i) sc]).run Try.prog W = .ok (goInt ((n - i : Nat) : Int)) (W.setRow w.heap.size row2) := fun W hW ty dc sc => by
    have hb1 : W.heap[w.heap.size]? = some (.cells row1 38 (0, 0)) := by rw [hW]; exact setRow_heap _ _ ROW row1 38 (0, 0) (heap_alloc_new w _)
    have hbb : W.heap[b]? = some (.cells cur 38 (0, 0)) := by rw [hW, setRow_other _ _ b row1 (by omega), heap_alloc_old w _ hbw]; exact hb
    rw [hrow2]
    exact run_copy_rowK W _ _ ty 38 w.heap.size ((i + 1) * 2) (n - i) dc ⟨b, i * 2, none⟩ (n - i) sc row1 38 cs (n - i) 2 Try.underlying23 hsz hb1 (by simp only [Nat.min_def]; split <;> omega) hcl
      (fun j v hj => by
        rw [Addr.add_lit, cell_of_row W b (i * 2 + j) cur 38 (0, 0) hbb]
        rw [hcs, List.getElem?_drop, List.getElem?_take] at hj
        split at hj
        · simpa using hj
        · cases hj)
      (by rw [hcl, hr1]; omega) (fun v hv => h1c v (by rw [hcs] at hv; exact List.mem_of_mem_drop hv))
  have hres : row2.size = G * 2 ∧ row2.toList.take ((n + 1) * 2) = os ++ vs ++ cs := by
    constructor
    · rw [hrow2]
      simp only [List.size_toArray, List.length_append, List.length_take, List.length_drop, Array.length_toList, hcl, hr1]
      omega
    · have e1 : row1.toList.take ((i + 1) * 2) = os ++ vs := by
        rw [hrow1, toList_setIf, hRt, show (i + 1) * 2 = i * 2 + 2 by omega]
        exact list_take_mid os vs _ _ _ hol hvsl
      rw [hrow2, toList_setIf, e1]
      rw [show (n + 1) * 2 = (i * 2 + 2) + (n - i) * 2 by omega]
      exact list_take_mid (os ++ vs) cs _ _ _ (by rw [List.length_append, hol, hvsl]) hcl
  have fin : ∀ W : World, W.heap = ((w.alloc (.cells ROW 38)).setRow w.heap.size row1).heap → W.os = w.os → W.tape = w.tape → W.output = w.output → Below w.heap.size w (W.setRow w.heap.size row2) ∧ ∃ cur' : Array Value, (W.setRow w.heap.size row2).heap[w.heap.size]? = some (.cells cur' 38 (0, 0)) ∧ cur'.size = G * 2 ∧ cur'.toList.take ((n + 1) * 2) = os ++ vs ++ cs := fun W hW h1 h2 h3 => by
    have hb1 : W.heap[w.heap.size]? = some (.cells row1 38 (0, 0)) := by rw [hW]; exact setRow_heap _ _ ROW row1 38 (0, 0) (heap_alloc_new w _)
    refine ⟨⟨h1, h2, h3, ?_, fun j hj => ?_⟩, row2, setRow_heap W _ row1 row2 38 (0, 0) hb1, hres.1, hres.2⟩
    · have e1 : (W.setRow w.heap.size row2).heap.size = W.heap.size := by simp [World.setRow]
      rw [e1, hW]
      simp [World.setRow]
    · rw [setRow_other W _ j row2 (by omega), hW, setRow_other _ _ j row1 (by omega)]
      exact heap_alloc_old w _ hj
  have hGi : ¬ (G = i) := by omega
  have hGim : ¬ (G = i + 1) := by omega
  have hci : ¬ (c = i) := by omega
  have hw1 : IntKind.i64.wrap ((i : Int) + (1 : Int)) = (i : Int) + (1 : Int) := by rw [IntKind.wrap_i64]; omega
  have hb1 : (0 : Int) ≤ (i : Int) + (1 : Int) := by omega
  have hin : i ≤ n := by omega
  have htn : ((i : Int) + (1 : Int)).toNat = i + 1 := by omega
  have hb3 : (i : Int) ≤ (n : Int) := by omega
  rw [← hvs, ← hcs, ← hos]
  clear hkk hik hold hROW hG hRl hRt hcs hvs hos hrow1 hrow2 hcl hvsl hol hr1 hres hzb hzs hz0 hi0 hinfo hsz
  go_enter Try.func65, Try.ntmps65
  have hA3 := hA (w.alloc (.cells ROW 38)).drew rfl
  have hB3 := hB ((w.alloc (.cells ROW 38)).drew.setRow w.heap.size row1).drew rfl
  go_wp2_with (first
    | (at_builtin; refine Lib.wpList_append_run _ rfl _ _ _ _ rfl _ _ rfl rfl _ _ (hrz _) ?_)
    | (at_builtin; refine wpList_copy_runV _ rfl _ _ 23 23 rfl _ _ rfl rfl (hA3 _ _) ?_))
  go_region_law_o (refine step_copy_runV rfl _ _ 23 23 rfl (.slice (some ⟨w.heap.size, (i + 1) * 2, none⟩) (n - i) (G - (i + 1))) (.slice (some ⟨b, i * 2, none⟩) (n - i) (c - i)) (by simp [Act.eval, Act.put]) (by simp [Act.eval, Act.put]) (hB3 3 (G - (i + 1)) (c - i)) ?_)
  go_wp2
  go_ret
  have hf := fin ((w.alloc (.cells ROW 38)).drew.setRow w.heap.size row1).drew rfl rfl rfl rfl
  exact ⟨G, rfl, hGn, hGm, hf.1, hf.2⟩
set_option maxHeartbeats 4000000 in
set_option maxRecDepth 100000 in
/-- The place is the end: an append. -/
theorem insert_end (x : Value) (n : Nat) (cs : List Value) (vb vc : Nat) (vcur : Array Value) (tv : TypeId) (w : World) (hsmall : n < 1000000)
    (hx : w.ownsRow 0 38 2 x n cs) (hv : w.heap[vb]? = some (.cells vcur tv (0, 0))) (hvl : 2 ≤ vcur.size) (h1v : ∀ v ∈ vcur.toList.take 2, v.oneCell' = true) :
    Calls Try.prog 65 #[x, .int .i64 n, .slice (some ⟨vb, 0, none⟩) 1 vc] w fun e w' =>
      ∃ u, e = .returned u ∧ w'.ownsRow 0 38 2 u (n + 1) (cs ++ vcur.toList.take 2) ∧ w.grownBy w' x.ownBlock ∧ (u.ownBlock = x.ownBlock ∨ u.ownBlock = some w.heap.size) := by
  have mixed : Try.prog.follows Departure.mixedOrders = true := by kernel_rfl
  have hinfo : (Try.prog.info? 38).map (fun i => (i.zero, i.size, i.bytes)) = some (some (.agg #[.slice none 0 0, .string ⟨#[]⟩]), 2, 40) := by kernel_rfl
  obtain ⟨i0, hi0, hzz⟩ := Option.map_eq_some_iff.1 hinfo
  simp only [Prod.mk.injEq] at hzz
  obtain ⟨hz0, hzs, hzb⟩ := hzz
  obtain ⟨u, w', hrun, hown, hgr, _, hub⟩ := run_append_own_at (P := Try.prog) w 0 23 23 38 i0 _ 2 40 Try.underlying23 hi0 hz0 hzs hzb rfl (by omega) x n cs hx ⟨vb, 0, none⟩ 1 vc (vcur.toList.take 2) (by rw [List.length_take, Array.length_toList]; omega)
    (fun j v hj => by
      rw [Addr.add_lit, Nat.zero_add, cell_of_row w vb j vcur tv (0, 0) hv]
      rw [List.getElem?_take] at hj
      split at hj
      · simpa using hj
      · cases hj) h1v (by unfold maxLen; omega) (by omega) (Nat.zero_le _)
  rcases hx.2 with ⟨rfl, rfl⟩ | ⟨b, c, cur, rfl, _, hb, hnc, _⟩
  · have keep : w'.ownsRow 0 38 2 u (0 + 1) (cs ++ vcur.toList.take 2) ∧ w.grownBy w' (Value.slice none 0 0).ownBlock ∧ (u.ownBlock = (Value.slice none 0 0).ownBlock ∨ u.ownBlock = some w.heap.size) := ⟨hown, hgr, hub⟩
    clear hown hgr hub hx hzb hzs hz0 hi0 hinfo
    go_enter Try.func65, Try.ntmps65
    go_wp2_with (at_builtin; refine Lib.wpList_append_run _ rfl _ _ _ _ rfl _ _ rfl rfl _ _ hrun ?_)
    go_ret
    exact ⟨u, rfl, keep.1, keep.2.1, keep.2.2⟩
  · have keep : w'.ownsRow 0 38 2 u (n + 1) (cs ++ vcur.toList.take 2) ∧ w.grownBy w' (Value.slice (some ⟨b, 0, none⟩) n c).ownBlock ∧ (u.ownBlock = (Value.slice (some ⟨b, 0, none⟩) n c).ownBlock ∨ u.ownBlock = some w.heap.size) := ⟨hown, hgr, hub⟩
    clear hown hgr hub hx hzb hzs hz0 hi0 hinfo
    go_enter Try.func65, Try.ntmps65
    go_wp2_with (at_builtin; refine Lib.wpList_append_run _ rfl _ _ _ _ rfl _ _ rfl rfl _ _ hrun ?_)
    all_goals (go_ret; exact ⟨u, rfl, keep.1, keep.2.1, keep.2.2⟩)
theorem insert_cells {w : World} {x v : Value} {n i : Nat} {cs ds : List Value} (hi : i ≤ n) (hsm : n < 1000000) (ho : w.ownsRow 0 38 2 x n cs) (hov : w.ownsRow 0 38 2 v 1 ds) (h1c : ∀ y ∈ cs, y.oneCell' = true) (h1d : ∀ y ∈ ds, y.oneCell' = true)
    (hne : ∀ b, x.ownBlock = some b → v.ownBlock ≠ some b) :
    Calls Try.prog 65 #[x, .int .i64 i, v] w fun e w' => ∃ u, e = .returned u ∧ Chg (fun j => x.ownBlock = some j) w w' ∧ w'.ownsRow 0 38 2 u (n + 1) (cs.take (i * 2) ++ ds ++ cs.drop (i * 2)) ∧ ∀ b, u.ownBlock = some b → x.ownBlock = some b ∨ w.heap.size ≤ b := by
  have hcl : cs.length = n * 2 := ho.1
  have hdl : ds.length = 2 := hov.1
  rcases hov.2 with ⟨_, h0⟩ | ⟨vb, vc, vcur, rfl, _, hvb, hv1, _, hvs, hvt⟩
  · cases h0
  have hds : vcur.toList.take 2 = ds := hvt
  have h1v : ∀ v ∈ vcur.toList.take 2, v.oneCell' = true := by rw [hds]; exact h1d
  by_cases hend : i = n
  · subst hend
    refine (insert_end x i cs vb vc vcur 38 w hsm ho hvb (by rw [hvs]; omega) h1v).mono fun e w' hp => ?_
    obtain ⟨u, rfl, hown, hgr, hub⟩ := hp
    have hch : Chg (fun j => x.ownBlock = some j) w w' := ⟨hgr.os, hgr.tape, hgr.output, hgr.size, fun j hj hx => hgr.block j hj fun e => hx e.symm⟩
    refine ⟨u, rfl, hch, ?_, fun b hb => ?_⟩
    · rw [hds] at hown
      rw [List.take_of_length_le (by omega), List.drop_eq_nil_of_le (by omega), List.append_nil]
      exact hown
    · rcases hub with e | e
      · rw [e] at hb; exact .inl hb
      · rw [e] at hb; cases hb; exact .inr (Nat.le_refl _)
  · rcases ho.2 with ⟨_, h0⟩ | ⟨b, c, cur, rfl, _, hb, hnc, hcm, hcs, hct⟩
    · omega
    have hvb2 : vb ≠ b := fun e => hne b rfl (by rw [← e]; rfl)
    have h1c' : ∀ v ∈ cur.toList.take (n * 2), v.oneCell' = true := by rw [hct]; exact h1c
    by_cases hroom : n + 1 ≤ c
    · refine (insert_shift b n c i vb vc cur vcur 38 w (by omega) hroom (by have h := hcm; unfold maxLen at h; omega) hvb2 hb hcs hvb (by rw [hvs]; omega) h1c' h1v).mono fun e w' hp => ?_
      obtain ⟨rfl, cur', rfl, hsz, htk⟩ := hp
      have hch : Chg (fun j => (Value.slice (some ⟨b, 0, none⟩) n c).ownBlock = some j) w (w.drew.setRow b cur') := ⟨rfl, rfl, rfl, (by rw [show (w.drew.setRow b cur').heap.size = w.drew.heap.size by simp [World.setRow]]; exact Nat.le_refl _), fun j _ hx => setRow_other w.drew b j cur' fun e => hx (by rw [e]; rfl)⟩
      refine ⟨_, rfl, hch, ⟨by simp [hcl, hdl]; omega, .inr ⟨b, c, cur', rfl, Nat.zero_le _, setRow_heap w.drew b cur cur' 38 (0, 0) hb, hroom, hcm, hsz, ?_⟩⟩, fun b' hb' => .inl hb'⟩
      rw [htk, hds, ← hct, List.take_take, show min (i * 2) (n * 2) = i * 2 by omega]
    · refine (insert_grow b n c i vb vc cur vcur 38 w (by omega) hnc (by omega) hsm hb hcs hvb (by rw [hvs]; omega) h1c' h1v).mono fun e w' hp => ?_
      obtain ⟨G, rfl, hG1, hG2, hbel, cur', hcur', hsz, htk⟩ := hp
      have hch : Chg (fun j => (Value.slice (some ⟨b, 0, none⟩) n c).ownBlock = some j) w w' := ⟨hbel.os, hbel.tape, hbel.output, hbel.size, fun j hj _ => hbel.block j hj⟩
      refine ⟨_, rfl, hch, ⟨by simp [hcl, hdl]; omega, .inr ⟨_, G, cur', rfl, Nat.zero_le _, hcur', hG1, hG2, hsz, ?_⟩⟩, fun b' hb' => .inr (by cases hb'; exact Nat.le_refl _)⟩
      rw [htk, hds, ← hct, List.take_take, show min (i * 2) (n * 2) = i * 2 by omega]
/-! as the executor asks: rows that are owned with their inner rows -/
def insE (es : List Eqn) (i : Nat) (e : Eqn) : List Eqn := es.take i ++ e :: es.drop i
theorem nodup_ins {X A B V U2 U : List Nat} (h1 : (X ++ (A ++ B)).Nodup) (h2 : (V ++ U2).Nodup) (h12 : ∀ b ∈ X ++ (A ++ B), b ∉ V ++ U2) (hU : U.Nodup) (hu : ∀ b ∈ U, b ∈ X ∨ (b ∉ X ++ (A ++ B) ∧ b ∉ V ++ U2)) : (U ++ (A ++ (U2 ++ B))).Nodup := by
  grind
noncomputable def S_slices_Insert : List DA → Option Sp
  | [.c (.row (.deqs es)), .c (.sc (.int .i64 i)), .c (.row (.deqs vs))] => match vs with
    | [e] => some ⟨decide (0 ≤ i ∧ i ≤ es.length ∧ es.length < 1000000), [EsD (insE es i.toNat e)], [], .take⟩
    | _ => none
  | _ => none
theorem ek_eqs {e : TypeId} (h : ekOf EKs .eqs = some e) : e = 38 := by
  have h0 : ekOf EKs .eqs = some 38 := by kernel_rfl
  rw [h0] at h; cases h; rfl
theorem insert_take {w : World} {x v : Value} {es : List Eqn} {f : Eqn} {i : Nat} {l1 l2 : List Nat} {cs us ds vs : List Value} (hi : i ≤ es.length) (hsm : es.length < 1000000) (D1 : DeepRep w 38 x es l1 cs us) (D2 : DeepRep w 38 v [f] l2 ds vs)
    (hne : ∀ b, b ∈ l1 → b ∉ l2) :
    Calls Try.prog 65 #[x, .int .i64 i, v] w fun e w' => ∃ u l3 cs' us', e = .returned u ∧ Chg (fun j => j ∈ l1) w w' ∧ DeepRep w' 38 u (insE es i f) l3 cs' us' ∧ ∀ b, b ∈ l3 → (b ∈ l1 ∨ b ∈ l2) ∨ w.heap.size ≤ b := by
  have x1 : ∀ b, x.ownBlock = some b → b ∈ l1 := fun b h => by rw [D1.blk, h]; simp
  have x2 : ∀ b, v.ownBlock = some b → b ∈ l2 := fun b h => by rw [D2.blk, h]; simp
  refine (insert_cells hi hsm (ownsM_to D1.own) (ownsM_to D2.own) D1.one D2.one fun b h1 h2 => hne b (x1 b h1) (x2 b h2)).mono fun e w' hp => ?_
  obtain ⟨u, rfl, hch, hown, hub⟩ := hp
  have i1 := D1.inn.chg hch D1.apart
  have i2 := D2.inn.chg hch fun b hb h => hne b (x1 b h) (by rw [D2.blk]; exact List.mem_append_right _ hb)
  have hul : us.length = es.length := D1.inn.1
  have hcl : cs.length = es.length * 2 := D1.own.1
  have hvl : vs.length = 1 := D2.inn.1
  have hdl : ds.length = 2 := D2.own.1
  have hlen : (insE es i f).length = es.length + 1 := by simp [insE]; omega
  have hus : us.filterMap Value.ownBlock = (us.take i).filterMap Value.ownBlock ++ (us.drop i).filterMap Value.ownBlock := by rw [← List.filterMap_append, List.take_append_drop]
  refine ⟨u, u.ownBlock.toList ++ (us.take i ++ (vs ++ us.drop i)).filterMap Value.ownBlock, cs.take (i * 2) ++ (ds ++ cs.drop (i * 2)), us.take i ++ (vs ++ us.drop i), rfl, hch.mono fun j _ h => x1 j h, ⟨?_, ?_, ?_, rfl, ?_⟩, fun b hb => ?_⟩
  · rw [hlen, ← List.append_assoc]; exact ownsM_of hown
  · exact (D1.prs.take i).append (D2.prs.append (D1.prs.drop i) (by rw [hdl]; rfl) (by rw [hvl]; rfl)) (by rw [List.length_take, List.length_take]; omega) (by rw [List.length_take, List.length_take]; omega)
  · exact (i1.take i).append (i2.append (i1.drop i))
  · rw [List.filterMap_append, List.filterMap_append]
    refine nodup_ins (X := x.ownBlock.toList) (V := v.ownBlock.toList) (by rw [← hus, ← D1.blk]; exact D1.nd) (by rw [← D2.blk]; exact D2.nd) (fun b hb => ?_) (toList_nodup _) fun b hb => ?_
    · rw [← hus, ← D1.blk] at hb
      rw [← D2.blk]
      exact hne b hb
    · rw [← hus, ← D1.blk, ← D2.blk]
      rcases hub b (by simpa using hb) with h | h
      · exact .inl (by rw [h]; simp)
      · exact .inr ⟨fun hm => by have := D1.lt b hm; omega, fun hm => by have := D2.lt b hm; omega⟩
  · rcases List.mem_append.1 hb with hb | hb
    · rcases hub b (by simpa using hb) with h | h
      · exact .inl (.inl (x1 b h))
      · exact .inr h
    · rw [List.filterMap_append, List.filterMap_append] at hb
      rcases List.mem_append.1 hb with hb | hb
      · exact .inl (.inl (by rw [D1.blk, hus]; exact List.mem_append_right _ (List.mem_append_left _ hb)))
      · rcases List.mem_append.1 hb with hb | hb
        · exact .inl (.inr (by rw [D2.blk]; exact List.mem_append_right _ hb))
        · exact .inl (.inl (by rw [D1.blk, hus]; exact List.mem_append_right _ (List.mem_append_right _ hb)))
theorem K_slices_Insert : Sound1 Try.prog EKs F_slices_Insert.f S_slices_Insert := by
  intro f args sp hsp hpre
  unfold tabF alook at hsp
  cases hb : Nat.beq f F_slices_Insert.f with
  | false => rw [hb] at hsp; cases hsp
  | true =>
    rw [hb] at hsp
    have he := Nat.eq_of_beq_eq_true hb
    subst he
    have hsp : S_slices_Insert args = some sp := hsp
    unfold S_slices_Insert at hsp
    split at hsp
    · rename_i es i vs _
      split at hsp
      · cases hsp
        obtain ⟨h1, h2, h3⟩ := of_decide_eq_true hpre
        refine ⟨⟨_, Try.func65, by kernel_rfl, by kernel_rfl⟩, fun hg => (by cases hg), fun _ w B vals os hargs hnd hB hlt => ?_⟩
        cases hargs with
        | c g1 t1 => cases g1 with
          | own he1 ho1 hk1 g1' => cases g1'; cases t1 with
            | c g2 t2 => cases g2 with
              | sc g2' => cases g2'; cases t2 with
                | c g3 t3 => cases g3 with
                  | own he3 ho3 hk3 g3' =>
                    cases g3'; cases t3
                    obtain rfl := ek_eqs he1
                    obtain rfl := ek_eqs he3
                    obtain ⟨cs1, us1, D1⟩ := DeepRep.of ho1 hk1
                    obtain ⟨cs2, us2, D2⟩ := DeepRep.of ho3 hk3
                    have hi : i = ((i.toNat : Nat) : Int) := by omega
                    have hcall := insert_take (i := i.toNat) (by omega) h3 D1 D2 (fun b h1 h2 => by
                      simp only [obs, List.cons_append, List.nil_append, List.flatMap_cons, List.flatMap_nil, List.append_nil] at hnd
                      exact (List.nodup_append.1 hnd).2.2 b h1 b h2 rfl)
                    rw [← hi] at hcall
                    refine hcall.mono fun e w' hp => ?_
                    obtain ⟨u, l3, cs', us', rfl, hch, hD, hub⟩ := hp
                    obtain ⟨r1, r2⟩ := hD.mk' B
                    exact ⟨u, rfl, hch.mono fun j _ hj => ⟨_, List.mem_cons_self, hj⟩, _, l3, he1, r1, r2, fun b hb => (hub b hb).imp (fun h => h.elim (fun h => ⟨_, List.mem_cons_self, h⟩) fun h => ⟨_, List.mem_cons_of_mem _ List.mem_cons_self, h⟩) id⟩
      · cases hsp
    · cases hsp
end
end Go.Proofs.Ytbolcmcjniiieaa.V
