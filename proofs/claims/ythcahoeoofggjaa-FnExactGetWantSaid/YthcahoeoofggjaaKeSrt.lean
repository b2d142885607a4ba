/- What functions come to, and that they do so; conditions: those that each theorem states. -/
import Derived.Test.YthcahoeoofggjaaKeM9
import Derived.Shelf.Sort.Plain
import Derived.Shelf.Slices.Delete
import Derived.Shelf.Slices.In.SortNone
import Derived.Ground.Names2Prog
import Derived.Sort.OwnSortedInts
set_option linter.unusedVariables false
set_option linter.unusedSimpArgs false
namespace Go.Proofs.Ythcahoeoofggjaa.V
open Go Vx Vx.N
/-! ### slices.Sort and slices.Delete at slices of int: the shelf's contracts, laid -/
section
open Go.Shelf Go.RowKit Go.Sort Go.Proofs
def laysSrt_ren : Go.Shelf.Ren := ⟨fun | 189 => 50 | 125 => 92 | 257 => 91 | 128 => 125 | 129 => 126 | 294 => 116 | 295 => 117 | 296 => 118 | 297 => 119 | 298 => 120 | 299 => 121 | 216 => 122 | 300 => 123 | 301 => 124 | 328 => 138 | 329 => 139 | 330 => 140 | 331 => 141 | 332 => 142 | 215 => 143 | 343 => 148 | n => n, fun | 28 => 25 | 3 => 3 | 46 => 114 | 0 => 0 | 51 => 100 | 53 => 140 | 4 => 4 | 183 => 131 | 182 => 130 | 131 => 136 | 5 => 5 | 9 => 9 | 218 => 148 | 222 => 152 | 228 => 156 | 229 => 23 | n => n, fun | n => n⟩
theorem laysSrt : Go.Proofs.Lays.n189 Try.prog laysSrt_ren := {
  mixed := by kernel_rfl
  f125 := Try.func92.trans (congrArg some (by kernel_rfl))
  f128 := Try.func125.trans (congrArg some (by kernel_rfl))
  f129 := Try.func126.trans (congrArg some (by kernel_rfl))
  f189 := Try.func50.trans (congrArg some (by kernel_rfl))
  f215 := Try.func143.trans (congrArg some (by kernel_rfl))
  f216 := Try.func122.trans (congrArg some (by kernel_rfl))
  f257 := Try.func91.trans (congrArg some (by kernel_rfl))
  f294 := Try.func116.trans (congrArg some (by kernel_rfl))
  f295 := Try.func117.trans (congrArg some (by kernel_rfl))
  f296 := Try.func118.trans (congrArg some (by kernel_rfl))
  f297 := Try.func119.trans (congrArg some (by kernel_rfl))
  f298 := Try.func120.trans (congrArg some (by kernel_rfl))
  f299 := Try.func121.trans (congrArg some (by kernel_rfl))
  f300 := Try.func123.trans (congrArg some (by kernel_rfl))
  f301 := Try.func124.trans (congrArg some (by kernel_rfl))
  f328 := Try.func138.trans (congrArg some (by kernel_rfl))
  f329 := Try.func139.trans (congrArg some (by kernel_rfl))
  f330 := Try.func140.trans (congrArg some (by kernel_rfl))
  f331 := Try.func141.trans (congrArg some (by kernel_rfl))
  f332 := Try.func142.trans (congrArg some (by kernel_rfl))
  f343 := Try.func148.trans (congrArg some (by kernel_rfl))
  t0 := Try.underlying0
  a0 := Try.isAgg0
  z0 := Try.sizeOf0
  v0 := Try.zeroValue0
  t3 := Try.underlying3
  a3 := Try.isAgg3
  z3 := Try.sizeOf3
  v3 := Try.zeroValue3
  t4 := Try.underlying4
  a4 := Try.isAgg4
  z4 := Try.sizeOf4
  v4 := Try.zeroValue4
  t5 := Try.underlying5
  a5 := Try.isAgg5
  z5 := Try.sizeOf5
  v5 := Try.zeroValue5
  t9 := Try.underlying9
  a9 := Try.isAgg9
  z9 := Try.sizeOf9
  v9 := Try.zeroValue9
  t28 := Try.underlying25
  a28 := Try.isAgg25
  z28 := Try.sizeOf25
  v28 := Try.zeroValue25
  t46 := Try.underlying114
  a46 := Try.isAgg114
  z46 := Try.sizeOf114
  v46 := Try.zeroValue114
  t51 := Try.underlying100
  a51 := Try.isAgg100
  z51 := Try.sizeOf100
  v51 := Try.zeroValue100
  t53 := Try.underlying140
  a53 := Try.isAgg140
  z53 := Try.sizeOf140
  v53 := Try.zeroValue140
  t131 := Try.underlying136
  a131 := Try.isAgg136
  z131 := Try.sizeOf136
  v131 := Try.zeroValue136
  t182 := Try.underlying130
  a182 := Try.isAgg130
  z182 := Try.sizeOf130
  v182 := Try.zeroValue130
  t183 := Try.underlying131
  a183 := Try.isAgg131
  z183 := Try.sizeOf131
  v183 := Try.zeroValue131
  t218 := Try.underlying148
  a218 := Try.isAgg148
  z218 := Try.sizeOf148
  v218 := Try.zeroValue148
  t222 := Try.underlying152
  a222 := Try.isAgg152
  z222 := Try.sizeOf152
  v222 := Try.zeroValue152
  t228 := Try.underlying156
  a228 := Try.isAgg156
  z228 := Try.sizeOf156
  v228 := Try.zeroValue156
  t229 := Try.underlying23
  a229 := Try.isAgg23
  z229 := Try.sizeOf23
  v229 := Try.zeroValue23 }
open Go.Sort Go.RowKit in
theorem sh_Sort_int (blk off cap : Nat) (zs : List Int) (w : World) (hH : Holds (Value.int .i64) w blk off zs.toArray) (hblk : blk < w.heap.size) (hsz : zs.length < 4611686018427387904) :
    Calls Try.prog 50 #[.slice (some ⟨blk, off, none⟩) zs.length cap] w fun e w' =>
      e = .returned (.tuple #[]) ∧ ∃ n os, w' = grow (putRow (Value.int .i64) (Sort.ahead w n) blk off (zs.mergeSort fun x y => @decide (x ≤ y) (x.decLe y)).toArray) os := Any.slices_Sort_int laysSrt blk off cap zs w hH hblk hsz
def laysDel_ren : Go.Shelf.Ren := ⟨fun | 23 => 49 | n => n, fun | 22 => 25 | 3 => 3 | 4 => 4 | 0 => 0 | n => n, fun | n => n⟩
theorem laysDel : Go.Proofs.Lays2.n23 Try.prog laysDel_ren := {
  mixed := by kernel_rfl
  f23 := Try.func49.trans (congrArg some (by kernel_rfl))
  t0 := Try.underlying0
  a0 := Try.isAgg0
  z0 := Try.sizeOf0
  v0 := Try.zeroValue0
  t3 := Try.underlying3
  a3 := Try.isAgg3
  z3 := Try.sizeOf3
  v3 := Try.zeroValue3
  t4 := Try.underlying4
  a4 := Try.isAgg4
  z4 := Try.sizeOf4
  v4 := Try.zeroValue4
  t22 := Try.underlying25
  a22 := Try.isAgg25
  z22 := Try.sizeOf25
  v22 := Try.zeroValue25
  i3 := by kernel_rfl }
open Go.RowKit Go.Lib Go.Sort in
theorem sh_Delete_int (blk off cap i j : Nat) (zs : List Int) (w : World) (hH : Holds (Value.int .i64) w blk off zs.toArray) (hcap : zs.length ≤ cap) (hm : cap ≤ 9223372036854775807) (hij : i ≤ j) (hj : j ≤ zs.length) :
    Calls Try.prog 49 #[.slice (some ⟨blk, off, none⟩) zs.length cap, .int .i64 i, .int .i64 j] w fun e w' => e = .returned (.slice (some ⟨blk, off, none⟩) (zs.length - (j - i)) cap) ∧ ∃ q, w' = putRow (Value.int .i64) (Sort.ahead w q) blk off (zs.take i ++ zs.drop j ++ List.replicate (j - i) 0).toArray := Any.slices_Delete_int laysDel blk off cap i j zs w hH hcap hm hij hj
open Go.RowKit Go.Lib Go.Sort in
theorem sh_Sort_int_none (p : Option Addr) (cap : Nat) (w : World) :
    Calls Try.prog 50 #[.slice p 0 cap] w fun e w' => e = .returned (.tuple #[]) ∧ w' = w := Any.slices_Sort_int_none laysSrt p cap w
open Go.RowKit Go.Lib in
theorem sort_same (l : List Int) : (l.mergeSort fun x y => @decide (x ≤ y) (x.decLe y)) = sortI l := by
  have e : (fun x y : Int => @decide (x ≤ y) (x.decLe y)) = fun x y => decide (x ≤ y) := by
    funext x y
    by_cases h : x ≤ y
    · exact (@decide_eq_true _ (x.decLe y) h).trans (decide_eq_true h).symm
    · exact (@decide_eq_false _ (x.decLe y) h).trans (decide_eq_false h).symm
  rw [e]; rfl
theorem own_ints {w : World} {B : Nat → Prop} {e : TypeId} {u : Value} {l : List Int} (h : OwnRep w B e u (.ints .i64 l)) : w.ownsRow 0 e 1 u l.length (l.map (Value.int .i64)) := by
  obtain ⟨cs, h1, h2⟩ := own_all2 h
  have hl : cs.length = l.length := h2.length.trans (List.length_map _)
  have hc : cs = l.map (Value.int .i64) := by
    apply List.ext_getElem?
    intro j
    by_cases hj : j < l.length
    · obtain ⟨a, ha, hr⟩ := h2.get j (.sc (.int .i64 l[j])) (by simp [Row.flat, hj])
      rw [ha, (hr : a = _)]
      simp [hj]
    · rw [List.getElem?_eq_none (by omega), List.getElem?_eq_none (by rw [List.length_map]; omega)]
  rw [hc] at h1
  exact h1
theorem ints_own {w : World} {B : Nat → Prop} {e : TypeId} {u : Value} {l : List Int} (h : w.ownsRow 0 e 1 u l.length (l.map (Value.int .i64))) : OwnRep w B e u (.ints .i64 l) :=
  ⟨_, h, fun j c hj => by
    simp only [Row.flat, List.getElem?_map, Option.map_eq_some_iff] at hj ⊢
    obtain ⟨x, hx, rfl⟩ := hj
    exact ⟨_, ⟨x, hx, rfl⟩, rfl⟩⟩
theorem K_slices_Sort : Sound1 Try.prog EKs F_slices_Sort.f S_slices_Sort := by
  intro f args sp hsp hpre
  unfold tabF alook at hsp
  cases hb : Nat.beq f F_slices_Sort.f with
  | false => rw [hb] at hsp; cases hsp
  | true =>
    rw [hb] at hsp
    have he := Nat.eq_of_beq_eq_true hb
    subst he
    have hsp : S_slices_Sort args = some sp := hsp
    unfold S_slices_Sort at hsp
    split at hsp
    · rename_i l _
      cases hsp
      have hl : l.length < 1000000 := of_decide_eq_true hpre
      refine ⟨⟨_, Try.func50, by kernel_rfl, by kernel_rfl⟩, fun hg => (by cases hg), fun _ w B vals os hargs hnd hB hlt => ?_⟩
      cases hargs with
      | c g1 t1 => cases g1 with
        | own he1 ho1 g1' =>
          cases g1'; cases t1
          rename_i x e1
          have hown := own_ints ho1
          rcases hown.2 with ⟨rfl, h0⟩ | ⟨b, cap, cur, rfl, hb0, hbk, hn, hm, hs, ht⟩
          · have hnil : l = [] := List.eq_nil_of_length_eq_zero h0
            subst hnil
            refine (sh_Sort_int_none none 0 w).mono fun e w' hp => ?_
            obtain ⟨rfl, rfl⟩ := hp
            exact ⟨_, rfl, Chg.refl _ _, ⟨[], rfl, .nil⟩, .cons ⟨_, he1, by rw [show sortI [] = [] by simp [sortI]]; exact ho1⟩ .nil⟩
          · rw [Nat.mul_one] at ht
            have hbl : b < w.heap.size := (Array.getElem?_eq_some_iff.1 hbk).1
            refine (sh_Sort_int b 0 cap l w (holds_of_blockI hbk ht) hbl (by omega)).mono fun e w' hp => ?_
            rw [sort_same] at hp
            obtain ⟨rfl, n, os', rfl⟩ := hp
            have hlen := sortI_len l
            have h2 := ownsRow_sortedI (n := n) (os := os') (ss := l) (ts := sortI l) hlen hb0 hbk hn hm (by rw [hs])
            refine ⟨_, rfl, ?_, ⟨[], rfl, .nil⟩, .cons ⟨_, he1, ?_⟩ .nil⟩
            · have hgr := grownBy_sortedI (w := w) (g := b) (n := n) (os := os') (sortI l).toArray
              exact (Chg.grown hgr).mono fun j _ hj => ⟨.slice (some ⟨b, 0, none⟩) l.length cap, by simp, by rw [← hj]; rfl⟩
            · refine ints_own ?_
              rw [hlen]
              exact h2
    · cases hsp
theorem K_slices_Delete : Sound1 Try.prog EKs F_slices_Delete.f S_slices_Delete := by
  intro f args sp hsp hpre
  unfold tabF alook at hsp
  cases hb : Nat.beq f F_slices_Delete.f with
  | false => rw [hb] at hsp; cases hsp
  | true =>
    rw [hb] at hsp
    have he := Nat.eq_of_beq_eq_true hb
    subst he
    have hsp : S_slices_Delete args = some sp := hsp
    unfold S_slices_Delete at hsp
    split at hsp
    · rename_i l i j _
      cases hsp
      obtain ⟨⟨q0, q1⟩, q2, q3, q4⟩ := of_decide_eq_true hpre
      refine ⟨⟨_, Try.func49, by kernel_rfl, by kernel_rfl⟩, fun hg => (by cases hg), fun _ w B vals os hargs hnd hB hlt => ?_⟩
      cases hargs with
      | c g1 t1 => cases g1 with
        | own he1 ho1 g1' => cases g1'; cases t1 with
          | c g2 t2 => cases g2 with
            | sc g2' => cases g2'; cases t2 with
              | c g3 t3 => cases g3 with
                | sc g3' =>
                  cases g3'; cases t3
                  rename_i x e1
                  have hown := own_ints ho1
                  rcases hown.2 with ⟨rfl, h0⟩ | ⟨b, cap, cur, rfl, hb0, hbk, hn, hm, hs, ht⟩
                  · omega
                  · rw [Nat.mul_one] at ht
                    have hbl : b < w.heap.size := (Array.getElem?_eq_some_iff.1 hbk).1
                    have hi : i = ((i.toNat : Nat) : Int) := by omega
                    have hj : j = ((j.toNat : Nat) : Int) := by omega
                    have hcall := sh_Delete_int b 0 cap i.toNat j.toNat l w (holds_of_blockI hbk ht) hn (by have h := hm; unfold maxLen at h; omega) (by omega) (by omega)
                    rw [← hi, ← hj] at hcall
                    refine hcall.mono fun e w' hp => ?_
                    obtain ⟨rfl, q, rfl⟩ := hp
                    have hlen : (l.take i.toNat ++ l.drop j.toNat ++ List.replicate (j.toNat - i.toNat) 0).length = l.length := by simp; omega
                    have hl2 : (l.take i.toNat ++ l.drop j.toNat).length = l.length - (j.toNat - i.toNat) := by simp; omega
                    have hgr := grownBy_sortedI (w := w) (g := b) (n := q) (os := #[]) (l.take i.toNat ++ l.drop j.toNat ++ List.replicate (j.toNat - i.toNat) 0).toArray
                    rw [Sort.grow_empty] at hgr
                    have hhp := heap_sortedI (w := w) (n := q) (os := #[]) (l.take i.toNat ++ l.drop j.toNat ++ List.replicate (j.toNat - i.toNat) 0).toArray hbk
                    rw [Sort.grow_empty] at hhp
                    refine ⟨_, rfl, (Chg.grown hgr).mono fun j _ hj => ⟨.slice (some ⟨b, 0, none⟩) l.length cap, by simp, by rw [← hj]; rfl⟩, _, he1, ints_own ⟨by simp, .inr ⟨b, cap, _, by rw [hl2], hb0, hhp, by omega, hm, by simp [putCells, hs], ?_⟩⟩, fun b' hb' => .inl ⟨.slice (some ⟨b, 0, none⟩) l.length cap, by simp, by rw [← hb']; rfl⟩⟩
                    have htk := take_putCellsI cur (l.take i.toNat ++ l.drop j.toNat ++ List.replicate (j.toNat - i.toNat) 0) (by rw [hlen, hs]; omega)
                    rw [Nat.mul_one, show (l.take i.toNat ++ l.drop j.toNat).length = min (l.take i.toNat ++ l.drop j.toNat).length (l.take i.toNat ++ l.drop j.toNat ++ List.replicate (j.toNat - i.toNat) 0).length by rw [hlen, hl2]; omega, ← List.take_take, htk, ← List.map_take, List.take_append_of_le_length (Nat.le_refl _), List.take_of_length_le (Nat.le_refl _)]
    · cases hsp
end
end Go.Proofs.Ythcahoeoofggjaa.V
