/- What functions come to, and that they do so; conditions: those that each theorem states. -/
import Derived.Test.YtbgheffgkncpgaaDoorDqw2
import Derived.Shelf.Strings.Builder1
import Derived.Shelf.Strings.Builder2
import Derived.Shelf.Strings.OnBuilder
import Derived.Shelf.Utf8.RuneCount
import Derived.Shelf.Strconv.Atoi
import Derived.Shelf.Strconv.Itoa0
import Derived.Shelf.Strconv.Itoa1
import Derived.Shelf.LaysM
import Derived.Shelf.Strconv.Itoa2
import Derived.Shelf.Strconv.Itoa3
import Derived.Shelf.Strconv.AtoiErrFast
import Derived.Shelf.Strconv.ParseIntEmpty
import Derived.Shelf.Strconv.AtoiFail
import Derived.Shelf.Strconv.Clone
import Derived.Shelf.Strconv.SyntaxError
import Derived.Shelf.LaysC
import Derived.Shelf.Strconv.ToError
import Derived.Shelf.Strconv.Lower
import Derived.Shelf.Strconv.ParseUint10
import Derived.Shelf.Strconv.ParseUint10Empty
import Derived.Shelf.Strconv.ParseUint10Any
import Derived.Shelf.Strconv.ParseInt10
import Derived.Shelf.Strconv.AtoiLong
import Derived.Shelf.Strconv.AtoiInnerAll
import Derived.Shelf.Strconv.RangeError
import Derived.Shelf.Strconv.ToErrorRange
import Derived.Shelf.Strconv.AtoiAll
import Derived.Shelf.Strconv.ErrVarAll
import Derived.Shelf.Strings.Search1
import Derived.Shelf.Strings.Search2
import Derived.Shelf.Strings.Search3
import Derived.Shelf.Strings.Cut
import Derived.Shelf.Strings.Count
import Derived.Shelf.Strings.Shaped
import Derived.Shelf.Strings.Split
import Derived.Shelf.Strings.SplitShaped
import Derived.Shelf.Unicode.Decode
import Derived.Shelf.Strings.RuneCount
import Derived.Shelf.Strings.Explode
import Derived.Shelf.Unicode.DecodeSlow
import Derived.Shelf.Unicode.DecodeAny
import Derived.Lib.AppendIntMem
import Derived.Lib.LaidTab
import Derived.Lib.ItoaNum
import Derived.Lib.Join
set_option linter.unusedVariables false
set_option linter.unusedSimpArgs false
namespace Go.Proofs.YtbgheffgkncpgaaDoor.V
open Go Vx Vx.N
/-! ### The shelf's contracts, laid -/
section
open Go.Shelf Go.RowKit Go.Proofs
def shelf_lays156_ren : Go.Shelf.Ren := ⟨fun | 156 => 50 | 165 => 58 | 166 => 59 | 169 => 60 | 240 => 71 | 241 => 72 | 276 => 90 | 277 => 91 | n => n, fun | 31 => 46 | 9 => 9 | 3 => 3 | 4 => 4 | 0 => 0 | 20 => 20 | 72 => 78 | 76 => 71 | 70 => 76 | 37 => 24 | 75 => 70 | 127 => 89 | 164 => 105 | 5 => 5 | 80 => 80 | n => n, fun | n => n⟩
theorem shelf_lays156 : Go.Proofs.Lays.n156 Tryd.prog shelf_lays156_ren := {
  mixed := by kernel_rfl
  f156 := Tryd.func50.trans (congrArg some (by kernel_rfl))
  f165 := Tryd.func58.trans (congrArg some (by kernel_rfl))
  f166 := Tryd.func59.trans (congrArg some (by kernel_rfl))
  f169 := Tryd.func60.trans (congrArg some (by kernel_rfl))
  f240 := Tryd.func71.trans (congrArg some (by kernel_rfl))
  f241 := Tryd.func72.trans (congrArg some (by kernel_rfl))
  f276 := Tryd.func90.trans (congrArg some (by kernel_rfl))
  f277 := Tryd.func91.trans (congrArg some (by kernel_rfl))
  t0 := Tryd.underlying0
  a0 := Tryd.isAgg0
  z0 := Tryd.sizeOf0
  v0 := Tryd.zeroValue0
  t3 := Tryd.underlying3
  a3 := Tryd.isAgg3
  z3 := Tryd.sizeOf3
  v3 := Tryd.zeroValue3
  t4 := Tryd.underlying4
  a4 := Tryd.isAgg4
  z4 := Tryd.sizeOf4
  v4 := Tryd.zeroValue4
  t9 := Tryd.underlying9
  a9 := Tryd.isAgg9
  z9 := Tryd.sizeOf9
  v9 := Tryd.zeroValue9
  t20 := Tryd.underlying20
  a20 := Tryd.isAgg20
  z20 := Tryd.sizeOf20
  v20 := Tryd.zeroValue20
  t31 := Tryd.underlying46
  a31 := Tryd.isAgg46
  z31 := Tryd.sizeOf46
  v31 := Tryd.zeroValue46
  t37 := Tryd.underlying24
  a37 := Tryd.isAgg24
  z37 := Tryd.sizeOf24
  v37 := Tryd.zeroValue24
  t70 := Tryd.underlying76
  a70 := Tryd.isAgg76
  z70 := Tryd.sizeOf76
  v70 := Tryd.zeroValue76
  t72 := Tryd.underlying78
  a72 := Tryd.isAgg78
  z72 := Tryd.sizeOf78
  v72 := Tryd.zeroValue78
  t75 := Tryd.underlying70
  a75 := Tryd.isAgg70
  z75 := Tryd.sizeOf70
  v75 := Tryd.zeroValue70
  t76 := Tryd.underlying71
  a76 := Tryd.isAgg71
  z76 := Tryd.sizeOf71
  v76 := Tryd.zeroValue71
  t127 := Tryd.underlying89
  a127 := Tryd.isAgg89
  z127 := Tryd.sizeOf89
  v127 := Tryd.zeroValue89
  t164 := Tryd.underlying105
  a164 := Tryd.isAgg105
  z164 := Tryd.sizeOf105
  v164 := Tryd.zeroValue105 }
theorem shelf_Builder_Extra_156 : Builder.Extra Tryd.prog shelf_lays156_ren := {
  sizeBuilder := by kernel_rfl
  liesBuilder := by kernel_rfl
  t5 := Tryd.underlying5
  a5 := Tryd.isAgg5
  z5 := Tryd.sizeOf5
  v5 := Tryd.zeroValue5
  infoByte := by kernel_rfl
  cellsByte := by kernel_rfl
  sizeByte := by kernel_rfl
  neB5 := by decide }
open Go.RowKit in
theorem shelf_strings_Join_none (a : Option Addr) (c : Nat) (sep : ByteArray) (w : World) :
    Calls Tryd.prog 50 #[.slice a 0 c, .string sep] w fun e w' => e = .returned (.string ⟨#[]⟩) ∧ w' = w := Any.strings_Join_none shelf_lays156 shelf_Builder_Extra_156 a c sep w
open Go.RowKit in
theorem shelf_strings_Join (bk o c : Nat) (xs : List ByteArray) (sep : ByteArray) (w : World) (hcells : ∀ (j : Nat) x, xs[j]? = some x → w.cell? ⟨bk, o + j, none⟩ = some (.string x)) (hbk : bk < w.heap.size) (hN : xs.length ≤ 140737488355328) (hcap : xs.length ≤ c) (hlen : (Lib.join (xs.map (·.data.toList)) sep.data.toList).length ≤ 140737488355328) :
    Calls Tryd.prog 50 #[.slice (some ⟨bk, o, none⟩) xs.length c, .string sep] w fun e w' => e = .returned (.string ⟨(Lib.join (xs.map (·.data.toList)) sep.data.toList).toArray⟩) ∧ Below w.heap.size w w' := Any.strings_Join shelf_lays156 shelf_Builder_Extra_156 bk o c xs sep w hcells hbk hN hcap hlen
def shelf_laysM171_ren : Go.Shelf.Ren := ⟨fun | 171 => 30 | 243 => 49 | 246 => 57 | 283 => 67 | 284 => 68 | 285 => 69 | 286 => 70 | 129 => 86 | 317 => 85 | 318 => 87 | 319 => 88 | 320 => 89 | 337 => 98 | 338 => 99 | n => n, fun | 3 => 3 | 9 => 9 | 2 => 2 | 4 => 4 | 171 => 84 | 0 => 0 | 53 => 61 | 37 => 24 | 5 => 5 | 173 => 87 | 212 => 101 | 51 => 55 | 20 => 20 | 213 => 102 | 46 => 59 | 232 => 124 | 233 => 125 | n => n, fun | 17 => 2 | 18 => 7 | 19 => 8 | n => n⟩
theorem shelf_laysM171 : Go.Proofs.LaysM.n171 Tryd.prog shelf_laysM171_ren := {
  mixed := by kernel_rfl
  f129 := Tryd.func86.trans (congrArg some (by kernel_rfl))
  f171 := Tryd.func30.trans (congrArg some (by kernel_rfl))
  f243 := Tryd.func49.trans (congrArg some (by kernel_rfl))
  f246 := Tryd.func57.trans (congrArg some (by kernel_rfl))
  f283 := Tryd.func67.trans (congrArg some (by kernel_rfl))
  f284 := Tryd.func68.trans (congrArg some (by kernel_rfl))
  f285 := Tryd.func69.trans (congrArg some (by kernel_rfl))
  f286 := Tryd.func70.trans (congrArg some (by kernel_rfl))
  f317 := Tryd.func85.trans (congrArg some (by kernel_rfl))
  f318 := Tryd.func87.trans (congrArg some (by kernel_rfl))
  f319 := Tryd.func88.trans (congrArg some (by kernel_rfl))
  f320 := Tryd.func89.trans (congrArg some (by kernel_rfl))
  f337 := Tryd.func98.trans (congrArg some (by kernel_rfl))
  f338 := Tryd.func99.trans (congrArg some (by kernel_rfl))
  t0 := Tryd.underlying0
  a0 := Tryd.isAgg0
  z0 := Tryd.sizeOf0
  v0 := Tryd.zeroValue0
  t2 := Tryd.underlying2
  a2 := Tryd.isAgg2
  z2 := Tryd.sizeOf2
  v2 := Tryd.zeroValue2
  t3 := Tryd.underlying3
  a3 := Tryd.isAgg3
  z3 := Tryd.sizeOf3
  v3 := Tryd.zeroValue3
  t4 := Tryd.underlying4
  a4 := Tryd.isAgg4
  z4 := Tryd.sizeOf4
  v4 := Tryd.zeroValue4
  t5 := Tryd.underlying5
  a5 := Tryd.isAgg5
  z5 := Tryd.sizeOf5
  v5 := Tryd.zeroValue5
  t9 := Tryd.underlying9
  a9 := Tryd.isAgg9
  z9 := Tryd.sizeOf9
  v9 := Tryd.zeroValue9
  t20 := Tryd.underlying20
  a20 := Tryd.isAgg20
  z20 := Tryd.sizeOf20
  v20 := Tryd.zeroValue20
  t37 := Tryd.underlying24
  a37 := Tryd.isAgg24
  z37 := Tryd.sizeOf24
  v37 := Tryd.zeroValue24
  t46 := Tryd.underlying59
  a46 := Tryd.isAgg59
  z46 := Tryd.sizeOf59
  v46 := Tryd.zeroValue59
  t51 := Tryd.underlying55
  a51 := Tryd.isAgg55
  z51 := Tryd.sizeOf55
  v51 := Tryd.zeroValue55
  t53 := Tryd.underlying61
  a53 := Tryd.isAgg61
  z53 := Tryd.sizeOf61
  v53 := Tryd.zeroValue61
  t171 := Tryd.underlying84
  a171 := Tryd.isAgg84
  z171 := Tryd.sizeOf84
  v171 := Tryd.zeroValue84
  t173 := Tryd.underlying87
  a173 := Tryd.isAgg87
  z173 := Tryd.sizeOf87
  v173 := Tryd.zeroValue87
  t212 := Tryd.underlying101
  a212 := Tryd.isAgg101
  z212 := Tryd.sizeOf101
  v212 := Tryd.zeroValue101
  t213 := Tryd.underlying102
  a213 := Tryd.isAgg102
  z213 := Tryd.sizeOf102
  t232 := Tryd.underlying124
  a232 := Tryd.isAgg124
  z232 := Tryd.sizeOf124
  v232 := Tryd.zeroValue124
  t233 := Tryd.underlying125
  a233 := Tryd.isAgg125
  z233 := Tryd.sizeOf125
  v233 := Tryd.zeroValue125
  g17 := by kernel_rfl
  g18 := by kernel_rfl
  g19 := by kernel_rfl
  i0 := by kernel_rfl
  i2 := by kernel_rfl
  i3 := by kernel_rfl
  i4 := by kernel_rfl
  i5 := by kernel_rfl
  i9 := by kernel_rfl
  i20 := by kernel_rfl
  i37 := by kernel_rfl
  i46 := by kernel_rfl
  i51 := by kernel_rfl
  i53 := by kernel_rfl
  i171 := by kernel_rfl
  i173 := by kernel_rfl
  i212 := by kernel_rfl
  i232 := by kernel_rfl
  i233 := by kernel_rfl
  m17 := by kernel_rfl
  m18 := by kernel_rfl
  m19 := by kernel_rfl }
open Go.RowKit Go.Sort Go.Lib in
theorem shelf_strconv_Itoa (n : Int) (h0 : -9223372036854775808 ≤ n) (h1 : n ≤ 9223372036854775807) (w : World) (htab : Lib.TabIs Tryd.prog w "internal/strconv.uint64pow10" .u64 Lib.pow10Tab) :
    Calls Tryd.prog 30 #[.int .i64 n] w fun e w' => e = .returned (.string ⟨(Lib.itoa n).toArray⟩) ∧ ∃ k os, w' = grow (w.drewN k) os := Any.strconv_Itoa shelf_laysM171 n h0 h1 w htab
end
/-! ### The library's functions in the executor's words -/
section
open Go.RowKit
theorem decDigits3 {u : Nat} (h : u < 1000) : Lib.decDigits u = (decL (u : Int)).map fun n => UInt8.ofNat n.toNat := by
  unfold decL
  by_cases h1 : u < 10
  · rw [Lib.decDigits_one h1, if_pos (by omega), List.map_cons, List.map_nil, show (48 + (u : Int)).toNat = 48 + u by omega]
  by_cases h2 : u < 100
  · rw [Lib.decDigits_two h1 h2, if_neg (by omega), if_pos (by omega), List.map_cons, List.map_cons, List.map_nil, show (48 + (u : Int) / 10).toNat = 48 + u / 10 by omega, show (48 + (u : Int) % 10).toNat = 48 + u % 10 by omega]
  · rw [Lib.decDigits, dif_neg h1, Lib.decDigits_two (by omega) (by omega), if_neg (by omega), if_neg (by omega), List.map_cons, List.map_cons, List.map_cons, List.map_nil, show (48 + (u : Int) / 100).toNat = 48 + u / 10 / 10 by omega, show (48 + (u : Int) / 10 % 10).toNat = 48 + u / 10 % 10 by omega, show (48 + (u : Int) % 10).toNat = 48 + u % 10 by omega]
    rfl
theorem itoa_dec {n : Int} (h0 : 0 ≤ n) (h1 : n < 1000) : (⟨(Lib.itoa n).toArray⟩ : ByteArray) = decB n := by
  unfold Lib.itoa decB strOf
  rw [if_neg (by omega), decDigits3 (by omega), Int.toNat_of_nonneg h0]
/-- Of strings alone. -/
theorem below_chg {w w' : World} (h : Below w.heap.size w w') (X : Nat → Prop) : Chg X w w' := ⟨h.os, h.tape, h.output, h.size, fun j hj _ => h.block j hj⟩
theorem tab_is {w : World} {bs : List Nat} (h : GlW EKs w bs) : Lib.TabIs Tryd.prog w "internal/strconv.uint64pow10" .u64 Lib.pow10Tab := by
  obtain ⟨_, t, fz, h1⟩ := h.tab 2 .u64 tab2 (by simp [EKs])
  unfold Lib.TabIs World.var?
  rw [show Tryd.prog.globalNamed "internal/strconv.uint64pow10" = some 2 by kernel_rfl, Option.bind_some, h1]
  rfl
theorem K_strconv_Itoa : Sound1 Tryd.prog EKs F_strconv_Itoa.f S_strconv_Itoa := by
  intro f args sp hsp hpre
  unfold tabF alook at hsp
  cases hb : Nat.beq f F_strconv_Itoa.f with
  | false => rw [hb] at hsp; cases hsp
  | true =>
    rw [hb] at hsp
    have he := Nat.eq_of_beq_eq_true hb
    subst he
    have hsp : S_strconv_Itoa args = some sp := hsp
    unfold S_strconv_Itoa S_spec_l1Dec2 at hsp
    split at hsp
    · rename_i n _
      cases hsp
      obtain ⟨h0, h1⟩ := of_decide_eq_true hpre
      refine ⟨⟨_, Tryd.func30, by kernel_rfl, by kernel_rfl⟩, fun _ w A B vals bs hargs hnd hA hBA hgl => ?_, fun hg => by cases hg⟩
      cases hargs with
      | c g1 t1 =>
        cases t1
        cases g1
        refine (shelf_strconv_Itoa n (by omega) (by omega) w (tab_is hgl)).mono fun e w' he => ?_
        obtain ⟨rfl, k, os, rfl⟩ := he
        exact ⟨_, rfl, below_chg (Lib.below_grow _ _ (Nat.le_refl _) _ _) _, fun _ => False, fun j hj => hj.elim, .nil, [_], rfl, .cons (by rw [itoa_dec h0 h1]; rfl) .nil⟩
    · cases hsp
theorem join_snoc (xs : List (List UInt8)) (y sep : List UInt8) : Lib.join (xs ++ [y]) sep = (if 0 < xs.length then Lib.join xs sep ++ sep else Lib.join xs sep) ++ y := by
  cases xs with
  | nil => simp [Lib.join_nil, Lib.join_one]
  | cons x r =>
    rw [List.cons_append, Lib.join_cons, Lib.join_cons, if_pos (by simp)]
    simp [Lib.joinTail, List.append_assoc]
theorem ba_app (a b : ByteArray) : (a ++ b).data.toList = a.data.toList ++ b.data.toList := by simp
theorem joinN_data (l : List ByteArray) (sep : ByteArray) : ∀ n, n ≤ l.length → (joinN l sep n).data.toList = Lib.join ((l.take n).map (·.data.toList)) sep.data.toList
  | 0, _ => by rw [List.take_zero]; rfl
  | n + 1, h => by
    have ih := joinN_data l sep n (by omega)
    rw [List.take_succ_eq_append_getElem (by omega), List.map_append, List.map_cons, List.map_nil, join_snoc, joinN, ba_app, List.length_map, List.length_take, Nat.min_eq_left (by omega), ← ih, getD_lt (by omega)]
    split
    · rw [ba_app]
    · rfl
theorem joinB_eq (l : List ByteArray) (sep : ByteArray) : (⟨(Lib.join (l.map (·.data.toList)) sep.data.toList).toArray⟩ : ByteArray) = joinB l sep := by
  have := joinN_data l sep l.length (Nat.le_refl _)
  rw [List.take_length] at this
  unfold joinB
  rw [← this]
theorem joinN_len (l : List ByteArray) (sep : ByteArray) (hs : sep.size ≤ 10) (hl : ∀ s ∈ l, s.size ≤ 10) : ∀ n, (joinN l sep n).size ≤ 20 * n
  | 0 => Nat.le_refl _
  | n + 1 => by
    have ih := joinN_len l sep hs hl n
    have hd : (l.getD n ⟨#[]⟩).size ≤ 10 := by
      rw [List.getD_eq_getElem?_getD]
      cases h : l[n]? with
      | none => exact Nat.zero_le _
      | some s => exact hl s (List.mem_of_getElem? h)
    rw [joinN, ByteArray.size_append]
    split
    · rw [ByteArray.size_append]; omega
    · omega
theorem K_strings_Join : Sound1 Tryd.prog EKs F_strings_Join.f S_strings_Join := by
  intro f args sp hsp hpre
  unfold tabF alook at hsp
  cases hb : Nat.beq f F_strings_Join.f with
  | false => rw [hb] at hsp; cases hsp
  | true =>
    rw [hb] at hsp
    have he := Nat.eq_of_beq_eq_true hb
    subst he
    have hsp : S_strings_Join args = some sp := hsp
    unfold S_strings_Join at hsp
    split at hsp
    · rename_i l sep _
      cases hsp
      rw [Bool.and_eq_true, List.all_eq_true] at hpre
      obtain ⟨h0, h1⟩ := of_decide_eq_true hpre.1
      have h2 : ∀ s ∈ l, s.size ≤ 10 := fun s hs => of_decide_eq_true (hpre.2 s hs)
      refine ⟨⟨_, Tryd.func50, by kernel_rfl, by kernel_rfl⟩, fun _ w A B vals bs hargs hnd hA hBA hgl => ?_, fun hg => by cases hg⟩
      cases hargs with
      | c g1 t1 => cases t1 with
        | c g2 t2 =>
          cases t2
          cases g2
          obtain ⟨ad, cap, rfl, hcap, hrow⟩ := g1
          have fin : ∀ (e : Ending) (w' : World), e = .returned (.string (joinB l sep)) → Chg (fun j => j ∈ ([] : List Nat)) w w' → Post EKs w A B [] ⟨decide (l.length ≤ 10 ∧ sep.size ≤ 10) && l.all fun s => decide (s.size ≤ 10), [T (joinB l sep)], [], .fresh⟩ e w' := fun e w' h1 h2 => ⟨_, h1, h2, fun _ => False, fun j hj => hj.elim, .nil, [_], rfl, .cons rfl .nil⟩
          by_cases hl : 0 < l.length
          · obtain ⟨a, rfl, hPa, hcells⟩ := hrow hl
            have hc : ∀ (j : Nat) (x : ByteArray), l[j]? = some x → w.cell? (a.add j) = some (.string x) := fun j x hx => by
              obtain ⟨y, h3, h4⟩ := hcells j (.sc (.string x)) (by show (l.map fun x => DC.sc (.string x))[j]? = _; rw [List.getElem?_map, hx]; rfl)
              exact h3.trans (congrArg some h4)
            have hsp0 : a.spot = none := by
              have h3 := hc 0 l[0] (List.getElem?_eq_getElem hl)
              rw [show a.add 0 = a from rfl] at h3
              unfold World.cell? at h3
              split at h3
              · split at h3
                · cases h3
                · rename_i h4; simpa using h4
              · cases h3
            obtain ⟨bk, o, spot⟩ := a
            cases hsp0
            have hadd : ∀ j, (⟨bk, o, none⟩ : Addr).add j = ⟨bk, o + j, none⟩ := fun j => by unfold Addr.add; split <;> simp_all
            refine (shelf_strings_Join bk o cap l sep w (fun j x hx => by rw [← hadd]; exact hc j x hx) (hA _ hPa) (by omega) hcap (by
              have h3 := joinN_len l sep h1 h2 l.length
              have h4 : (joinB l sep).size ≤ 200 := by unfold joinB; omega
              rw [← joinB_eq] at h4
              have h5 : (Lib.join (l.map (·.data.toList)) sep.data.toList).length = (⟨(Lib.join (l.map (·.data.toList)) sep.data.toList).toArray⟩ : ByteArray).size := by show _ = Array.size _; simp
              omega)).mono fun e w' he => ?_
            obtain ⟨rfl, hbel⟩ := he
            exact fin _ _ (by rw [joinB_eq]) (below_chg hbel _)
          · obtain rfl : l = [] := List.eq_nil_of_length_eq_zero (by omega)
            refine (shelf_strings_Join_none ad cap sep w).mono fun e w' he => ?_
            obtain ⟨rfl, rfl⟩ := he
            exact fin _ _ rfl (Chg.refl _ _)
    · cases hsp
end
end Go.Proofs.YtbgheffgkncpgaaDoor.V
