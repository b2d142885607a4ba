/- What functions come to, and that they do so; conditions: those that each theorem states. -/
import Derived.Test.YtbgheffgkncpgaaDoorKqM18
import Derived.Shelf.Strings.Builder1
import Derived.Shelf.Strings.Builder2
import Derived.Shelf.Strings.OnBuilder
import Derived.Shelf.Utf8.RuneCount
import Derived.Shelf.Strconv.Atoi
import Derived.Shelf.Strconv.Itoa0
import Derived.Shelf.Strconv.Itoa1
import Derived.Shelf.LaysM
import Derived.Shelf.Strconv.Itoa2
import Derived.Shelf.Strconv.Itoa3
import Derived.Shelf.Strconv.AtoiErrFast
import Derived.Shelf.Strconv.ParseIntEmpty
import Derived.Shelf.Strconv.AtoiFail
import Derived.Shelf.Strconv.Clone
import Derived.Shelf.Strconv.SyntaxError
import Derived.Shelf.LaysC
import Derived.Shelf.Strconv.ToError
import Derived.Shelf.Strconv.Lower
import Derived.Shelf.Strconv.ParseUint10
import Derived.Shelf.Strconv.ParseUint10Empty
import Derived.Shelf.Strconv.ParseUint10Any
import Derived.Shelf.Strconv.ParseInt10
import Derived.Shelf.Strconv.AtoiLong
import Derived.Shelf.Strconv.AtoiInnerAll
import Derived.Shelf.Strconv.RangeError
import Derived.Shelf.Strconv.ToErrorRange
import Derived.Shelf.Strconv.AtoiAll
import Derived.Shelf.Strconv.ErrVarAll
import Derived.Shelf.Strings.Search1
import Derived.Shelf.Strings.Search2
import Derived.Shelf.Strings.Search3
import Derived.Shelf.Strings.Cut
import Derived.Shelf.Strings.Count
import Derived.Shelf.Strings.Shaped
import Derived.Shelf.Strings.Split
import Derived.Shelf.Strings.SplitShaped
import Derived.Shelf.Unicode.Decode
import Derived.Shelf.Strings.RuneCount
import Derived.Shelf.Strings.Explode
import Derived.Shelf.Unicode.DecodeSlow
import Derived.Shelf.Unicode.DecodeAny
import Derived.Lib.AppendIntMem
import Derived.Lib.LaidTab
import Derived.Lib.ItoaNum
import Derived.Lib.ConvBytes
import Derived.WalkKit
import Derived.ProofKit
import Derived.Handy
set_option linter.unusedVariables false
set_option linter.unusedSimpArgs false
namespace Go.Proofs.YtbgheffgkncpgaaDoor.V
open Go Vx Vx.N
/-! ### The shelf's contracts, laid -/
section
open Go.Shelf Go.RowKit Go.Proofs
def shelf_laysC172_ren : Go.Shelf.Ren := ⟨fun | 172 => 53 | 244 => 65 | 245 => 66 | 247 => 80 | 279 => 81 | 280 => 82 | 281 => 83 | 282 => 84 | 287 => 95 | 316 => 96 | 171 => 30 | 205 => 97 | 321 => 100 | 322 => 101 | 243 => 49 | 246 => 57 | 283 => 67 | 284 => 68 | 285 => 69 | 286 => 70 | 129 => 86 | 317 => 85 | 318 => 87 | 319 => 88 | 320 => 89 | 337 => 98 | 338 => 99 | n => n, fun | 9 => 9 | 3 => 3 | 75 => 70 | 76 => 71 | 4 => 4 | 5 => 5 | 167 => 94 | 37 => 24 | 0 => 0 | 85 => 95 | 2 => 2 | 168 => 97 | 53 => 61 | 175 => 110 | 46 => 59 | 210 => 113 | 127 => 89 | 145 => 123 | 143 => 121 | 21 => 21 | 171 => 84 | 173 => 87 | 212 => 101 | 51 => 55 | 20 => 20 | 213 => 102 | 232 => 124 | 233 => 125 | 80 => 80 | n => n, fun | 15 => 3 | 16 => 4 | 17 => 2 | 18 => 7 | 19 => 8 | n => n⟩
theorem shelf_laysC172 : Go.Proofs.LaysC.n172 Tryd.prog shelf_laysC172_ren := {
  mixed := by kernel_rfl
  f129 := Tryd.func86.trans (congrArg some (by kernel_rfl))
  f171 := Tryd.func30.trans (congrArg some (by kernel_rfl))
  f172 := Tryd.func53.trans (congrArg some (by kernel_rfl))
  f205 := Tryd.func97.trans (congrArg some (by kernel_rfl))
  f243 := Tryd.func49.trans (congrArg some (by kernel_rfl))
  f244 := Tryd.func65.trans (congrArg some (by kernel_rfl))
  f245 := Tryd.func66.trans (congrArg some (by kernel_rfl))
  f246 := Tryd.func57.trans (congrArg some (by kernel_rfl))
  f247 := Tryd.func80.trans (congrArg some (by kernel_rfl))
  f279 := Tryd.func81.trans (congrArg some (by kernel_rfl))
  f280 := Tryd.func82.trans (congrArg some (by kernel_rfl))
  f281 := Tryd.func83.trans (congrArg some (by kernel_rfl))
  f282 := Tryd.func84.trans (congrArg some (by kernel_rfl))
  f283 := Tryd.func67.trans (congrArg some (by kernel_rfl))
  f284 := Tryd.func68.trans (congrArg some (by kernel_rfl))
  f285 := Tryd.func69.trans (congrArg some (by kernel_rfl))
  f286 := Tryd.func70.trans (congrArg some (by kernel_rfl))
  f287 := Tryd.func95.trans (congrArg some (by kernel_rfl))
  f316 := Tryd.func96.trans (congrArg some (by kernel_rfl))
  f317 := Tryd.func85.trans (congrArg some (by kernel_rfl))
  f318 := Tryd.func87.trans (congrArg some (by kernel_rfl))
  f319 := Tryd.func88.trans (congrArg some (by kernel_rfl))
  f320 := Tryd.func89.trans (congrArg some (by kernel_rfl))
  f321 := Tryd.func100.trans (congrArg some (by kernel_rfl))
  f322 := Tryd.func101.trans (congrArg some (by kernel_rfl))
  f337 := Tryd.func98.trans (congrArg some (by kernel_rfl))
  f338 := Tryd.func99.trans (congrArg some (by kernel_rfl))
  t0 := Tryd.underlying0
  a0 := Tryd.isAgg0
  z0 := Tryd.sizeOf0
  v0 := Tryd.zeroValue0
  t2 := Tryd.underlying2
  a2 := Tryd.isAgg2
  z2 := Tryd.sizeOf2
  v2 := Tryd.zeroValue2
  t3 := Tryd.underlying3
  a3 := Tryd.isAgg3
  z3 := Tryd.sizeOf3
  v3 := Tryd.zeroValue3
  t4 := Tryd.underlying4
  a4 := Tryd.isAgg4
  z4 := Tryd.sizeOf4
  v4 := Tryd.zeroValue4
  t5 := Tryd.underlying5
  a5 := Tryd.isAgg5
  z5 := Tryd.sizeOf5
  v5 := Tryd.zeroValue5
  t9 := Tryd.underlying9
  a9 := Tryd.isAgg9
  z9 := Tryd.sizeOf9
  v9 := Tryd.zeroValue9
  t20 := Tryd.underlying20
  a20 := Tryd.isAgg20
  z20 := Tryd.sizeOf20
  v20 := Tryd.zeroValue20
  t21 := Tryd.underlying21
  a21 := Tryd.isAgg21
  z21 := Tryd.sizeOf21
  v21 := Tryd.zeroValue21
  t37 := Tryd.underlying24
  a37 := Tryd.isAgg24
  z37 := Tryd.sizeOf24
  v37 := Tryd.zeroValue24
  t46 := Tryd.underlying59
  a46 := Tryd.isAgg59
  z46 := Tryd.sizeOf59
  v46 := Tryd.zeroValue59
  t51 := Tryd.underlying55
  a51 := Tryd.isAgg55
  z51 := Tryd.sizeOf55
  v51 := Tryd.zeroValue55
  t53 := Tryd.underlying61
  a53 := Tryd.isAgg61
  z53 := Tryd.sizeOf61
  v53 := Tryd.zeroValue61
  t75 := Tryd.underlying70
  a75 := Tryd.isAgg70
  z75 := Tryd.sizeOf70
  v75 := Tryd.zeroValue70
  t76 := Tryd.underlying71
  a76 := Tryd.isAgg71
  z76 := Tryd.sizeOf71
  v76 := Tryd.zeroValue71
  t85 := Tryd.underlying95
  a85 := Tryd.isAgg95
  z85 := Tryd.sizeOf95
  v85 := Tryd.zeroValue95
  t127 := Tryd.underlying89
  a127 := Tryd.isAgg89
  z127 := Tryd.sizeOf89
  v127 := Tryd.zeroValue89
  t143 := Tryd.underlying121
  a143 := Tryd.isAgg121
  z143 := Tryd.sizeOf121
  v143 := Tryd.zeroValue121
  t145 := Tryd.underlying123
  a145 := Tryd.isAgg123
  z145 := Tryd.sizeOf123
  v145 := Tryd.zeroValue123
  t167 := Tryd.underlying94
  a167 := Tryd.isAgg94
  z167 := Tryd.sizeOf94
  v167 := Tryd.zeroValue94
  t168 := Tryd.underlying97
  a168 := Tryd.isAgg97
  z168 := Tryd.sizeOf97
  v168 := Tryd.zeroValue97
  t171 := Tryd.underlying84
  a171 := Tryd.isAgg84
  z171 := Tryd.sizeOf84
  v171 := Tryd.zeroValue84
  t173 := Tryd.underlying87
  a173 := Tryd.isAgg87
  z173 := Tryd.sizeOf87
  v173 := Tryd.zeroValue87
  t175 := Tryd.underlying110
  a175 := Tryd.isAgg110
  z175 := Tryd.sizeOf110
  v175 := Tryd.zeroValue110
  t210 := Tryd.underlying113
  a210 := Tryd.isAgg113
  z210 := Tryd.sizeOf113
  v210 := Tryd.zeroValue113
  t212 := Tryd.underlying101
  a212 := Tryd.isAgg101
  z212 := Tryd.sizeOf101
  v212 := Tryd.zeroValue101
  t213 := Tryd.underlying102
  a213 := Tryd.isAgg102
  z213 := Tryd.sizeOf102
  t232 := Tryd.underlying124
  a232 := Tryd.isAgg124
  z232 := Tryd.sizeOf124
  v232 := Tryd.zeroValue124
  t233 := Tryd.underlying125
  a233 := Tryd.isAgg125
  z233 := Tryd.sizeOf125
  v233 := Tryd.zeroValue125
  g15 := by kernel_rfl
  g16 := by kernel_rfl
  g17 := by kernel_rfl
  g18 := by kernel_rfl
  g19 := by kernel_rfl
  t80 := Tryd.underlying80
  a80 := Tryd.isAgg80
  z80 := Tryd.sizeOf80
  v80 := Tryd.zeroValue80
  i0 := by kernel_rfl
  i2 := by kernel_rfl
  i3 := by kernel_rfl
  i4 := by kernel_rfl
  i5 := by kernel_rfl
  i9 := by kernel_rfl
  i20 := by kernel_rfl
  i21 := by kernel_rfl
  i37 := by kernel_rfl
  i46 := by kernel_rfl
  i51 := by kernel_rfl
  i53 := by kernel_rfl
  i75 := by kernel_rfl
  i76 := by kernel_rfl
  i80 := by kernel_rfl
  i85 := by kernel_rfl
  i127 := by kernel_rfl
  i143 := by kernel_rfl
  i145 := by kernel_rfl
  i167 := by kernel_rfl
  i168 := by kernel_rfl
  i171 := by kernel_rfl
  i173 := by kernel_rfl
  i175 := by kernel_rfl
  i210 := by kernel_rfl
  i212 := by kernel_rfl
  i232 := by kernel_rfl
  i233 := by kernel_rfl
  m15 := by kernel_rfl
  m16 := by kernel_rfl
  m17 := by kernel_rfl
  m18 := by kernel_rfl
  m19 := by kernel_rfl
  c0 := by kernel_rfl
  c2 := by kernel_rfl
  c3 := by kernel_rfl
  c4 := by kernel_rfl
  c5 := by kernel_rfl
  c9 := by kernel_rfl
  c20 := by kernel_rfl
  c21 := by kernel_rfl
  c37 := by kernel_rfl
  c46 := by kernel_rfl
  c51 := by kernel_rfl
  c53 := by kernel_rfl
  c75 := by kernel_rfl
  c76 := by kernel_rfl
  c80 := by kernel_rfl
  c85 := by kernel_rfl
  c127 := by kernel_rfl
  c143 := by kernel_rfl
  c145 := by kernel_rfl
  c167 := by kernel_rfl
  c168 := by kernel_rfl
  c171 := by kernel_rfl
  c173 := by kernel_rfl
  c175 := by kernel_rfl
  c210 := by kernel_rfl
  c212 := by kernel_rfl
  c213 := by kernel_rfl
  c232 := by kernel_rfl
  c233 := by kernel_rfl }
open Go.RowKit in
theorem shelf_strconv_Atoi_ok (s : ByteArray) (hmax : s.size ≤ 9223372036854775806) (v : Int) (h : Lib.atoiAll s.data.toList = .ok v) (w : World) :
    Calls Tryd.prog 53 #[.string s] w fun e w' => e = .returned (.tuple #[.int .i64 v, .nilIface]) ∧ (w' = w ∨ ∃ t, w' = Lib.bytesWorld w 5 t) := Any.strconv_Atoi_ok shelf_laysC172 s hmax v h w
open Go.RowKit in
theorem shelf_strconv_Atoi_range_var (s : ByteArray) (hlim : s.size ≤ 281474976710656) (h : Lib.atoiAll s.data.toList = .range) (tp : TypeId) (p : Value) (w : World) (hvar : w.var? Tryd.prog "strconv.ErrRange" = some #[.iface tp p]) :
    Calls Tryd.prog 53 #[.string s] w fun e w' => ∃ N, e = .returned (.tuple #[.int .i64 (Lib.atoiSat s.data.toList), .iface 97 (.pointer (some ⟨N, 0, none⟩))]) ∧ w.heap.size ≤ N ∧ w'.heap[N]? = some (.cells #[.string ⟨#[65, 116, 111, 105]⟩, .string s, .iface tp p] 113 (0, 0)) ∧ Below w.heap.size w w' := Any.strconv_Atoi_range_var shelf_laysC172 s hlim h tp p w hvar
def shelf_lays145_ren : Go.Shelf.Ren := ⟨fun | 145 => 37 | 220 => 52 | 219 => 64 | 217 => 76 | 225 => 77 | 224 => 78 | 267 => 79 | 266 => 93 | 314 => 94 | n => n, fun | 9 => 9 | 4 => 4 | 59 => 51 | 3 => 3 | 5 => 5 | 46 => 59 | 146 => 108 | 51 => 55 | n => n, fun | 1 => 1 | n => n⟩
theorem shelf_lays145 : Go.Proofs.Lays.n145 Tryd.prog shelf_lays145_ren := {
  mixed := by kernel_rfl
  f145 := Tryd.func37.trans (congrArg some (by kernel_rfl))
  f217 := Tryd.func76.trans (congrArg some (by kernel_rfl))
  f219 := Tryd.func64.trans (congrArg some (by kernel_rfl))
  f220 := Tryd.func52.trans (congrArg some (by kernel_rfl))
  f224 := Tryd.func78.trans (congrArg some (by kernel_rfl))
  f225 := Tryd.func77.trans (congrArg some (by kernel_rfl))
  f266 := Tryd.func93.trans (congrArg some (by kernel_rfl))
  f267 := Tryd.func79.trans (congrArg some (by kernel_rfl))
  f314 := Tryd.func94.trans (congrArg some (by kernel_rfl))
  t3 := Tryd.underlying3
  a3 := Tryd.isAgg3
  z3 := Tryd.sizeOf3
  v3 := Tryd.zeroValue3
  t4 := Tryd.underlying4
  a4 := Tryd.isAgg4
  z4 := Tryd.sizeOf4
  v4 := Tryd.zeroValue4
  t5 := Tryd.underlying5
  a5 := Tryd.isAgg5
  z5 := Tryd.sizeOf5
  v5 := Tryd.zeroValue5
  t9 := Tryd.underlying9
  a9 := Tryd.isAgg9
  z9 := Tryd.sizeOf9
  v9 := Tryd.zeroValue9
  t46 := Tryd.underlying59
  a46 := Tryd.isAgg59
  z46 := Tryd.sizeOf59
  v46 := Tryd.zeroValue59
  t51 := Tryd.underlying55
  a51 := Tryd.isAgg55
  z51 := Tryd.sizeOf55
  v51 := Tryd.zeroValue55
  t59 := Tryd.underlying51
  a59 := Tryd.isAgg51
  z59 := Tryd.sizeOf51
  v59 := Tryd.zeroValue51
  t146 := Tryd.underlying108
  a146 := Tryd.isAgg108
  z146 := Tryd.sizeOf108
  v146 := Tryd.zeroValue108
  g1 := by kernel_rfl }
open Go.RowKit Go.Lib in
theorem shelf_strings_Cut (s sep : ByteArray) (m : Int) (w : World) (hs : s.size < 4294967281) (hm : w.cell? ⟨1, 0, none⟩ = some (.int .i64 m)) :
    Calls Tryd.prog 37 #[.string s, .string sep] w fun e w' => e = .returned (.tuple #[.string ⟨(Lib.cut s.data.toList sep.data.toList).1.toArray⟩, .string ⟨(Lib.cut s.data.toList sep.data.toList).2.1.toArray⟩, .bool (Lib.cut s.data.toList sep.data.toList).2.2]) ∧ ∃ n, w' = w.drewN n := Any.strings_Cut shelf_lays145 s sep m w hs hm
def shelf_lays146_ren : Go.Shelf.Ren := ⟨fun | 146 => 36 | 221 => 51 | 268 => 61 | 138 => 62 | 143 => 63 | 195 => 73 | 197 => 74 | 218 => 75 | 219 => 64 | 260 => 92 | 217 => 76 | 225 => 77 | 224 => 78 | 267 => 79 | 266 => 93 | 314 => 94 | n => n, fun | 9 => 9 | 31 => 46 | 3 => 3 | 4 => 4 | 0 => 0 | 105 => 90 | 21 => 21 | 5 => 5 | 46 => 59 | 119 => 116 | 139 => 119 | 138 => 118 | 146 => 108 | 51 => 55 | n => n, fun | 1 => 1 | 3 => 5 | 4 => 6 | n => n⟩
theorem shelf_lays146 : Go.Proofs.Lays.n146 Tryd.prog shelf_lays146_ren := {
  mixed := by kernel_rfl
  f138 := Tryd.func62.trans (congrArg some (by kernel_rfl))
  f143 := Tryd.func63.trans (congrArg some (by kernel_rfl))
  f146 := Tryd.func36.trans (congrArg some (by kernel_rfl))
  f195 := Tryd.func73.trans (congrArg some (by kernel_rfl))
  f197 := Tryd.func74.trans (congrArg some (by kernel_rfl))
  f217 := Tryd.func76.trans (congrArg some (by kernel_rfl))
  f218 := Tryd.func75.trans (congrArg some (by kernel_rfl))
  f219 := Tryd.func64.trans (congrArg some (by kernel_rfl))
  f221 := Tryd.func51.trans (congrArg some (by kernel_rfl))
  f224 := Tryd.func78.trans (congrArg some (by kernel_rfl))
  f225 := Tryd.func77.trans (congrArg some (by kernel_rfl))
  f260 := Tryd.func92.trans (congrArg some (by kernel_rfl))
  f266 := Tryd.func93.trans (congrArg some (by kernel_rfl))
  f267 := Tryd.func79.trans (congrArg some (by kernel_rfl))
  f268 := Tryd.func61.trans (congrArg some (by kernel_rfl))
  f314 := Tryd.func94.trans (congrArg some (by kernel_rfl))
  t0 := Tryd.underlying0
  a0 := Tryd.isAgg0
  z0 := Tryd.sizeOf0
  v0 := Tryd.zeroValue0
  t3 := Tryd.underlying3
  a3 := Tryd.isAgg3
  z3 := Tryd.sizeOf3
  v3 := Tryd.zeroValue3
  t4 := Tryd.underlying4
  a4 := Tryd.isAgg4
  z4 := Tryd.sizeOf4
  v4 := Tryd.zeroValue4
  t5 := Tryd.underlying5
  a5 := Tryd.isAgg5
  z5 := Tryd.sizeOf5
  v5 := Tryd.zeroValue5
  t9 := Tryd.underlying9
  a9 := Tryd.isAgg9
  z9 := Tryd.sizeOf9
  v9 := Tryd.zeroValue9
  t21 := Tryd.underlying21
  a21 := Tryd.isAgg21
  z21 := Tryd.sizeOf21
  v21 := Tryd.zeroValue21
  t31 := Tryd.underlying46
  a31 := Tryd.isAgg46
  z31 := Tryd.sizeOf46
  v31 := Tryd.zeroValue46
  t46 := Tryd.underlying59
  a46 := Tryd.isAgg59
  z46 := Tryd.sizeOf59
  v46 := Tryd.zeroValue59
  t51 := Tryd.underlying55
  a51 := Tryd.isAgg55
  z51 := Tryd.sizeOf55
  v51 := Tryd.zeroValue55
  t105 := Tryd.underlying90
  a105 := Tryd.isAgg90
  z105 := Tryd.sizeOf90
  v105 := Tryd.zeroValue90
  t119 := Tryd.underlying116
  a119 := Tryd.isAgg116
  z119 := Tryd.sizeOf116
  t138 := Tryd.underlying118
  a138 := Tryd.isAgg118
  z138 := Tryd.sizeOf118
  v138 := Tryd.zeroValue118
  t139 := Tryd.underlying119
  a139 := Tryd.isAgg119
  z139 := Tryd.sizeOf119
  v139 := Tryd.zeroValue119
  t146 := Tryd.underlying108
  a146 := Tryd.isAgg108
  z146 := Tryd.sizeOf108
  v146 := Tryd.zeroValue108
  g1 := by kernel_rfl
  g3 := by kernel_rfl
  g4 := by kernel_rfl }
open Go.RowKit Go.Lib in
theorem shelf_strings_Split (s sep : ByteArray) (m : Int) (w : World) (hs : s.size < 4294967281) (hm : w.cell? ⟨1, 0, none⟩ = some (.int .i64 m)) (h1 : 1 ≤ sep.size) :
    Calls Tryd.prog 36 #[.string s, .string sep] w fun e w' =>
      e = .returned (.slice (some ⟨w.heap.size, 0, none⟩) (Lib.countB s sep + 1) (Lib.countB s sep + 1)) ∧ w' = w.alloc (.cells ((Lib.splitB sep 0 (Lib.countB s sep) s).map Value.string).toArray 9) := Any.strings_Split shelf_lays146 (by kernel_rfl) s sep m w hs hm h1
end
/-! ### The library's functions in the executor's words -/
section
open Go.RowKit
theorem gv_max {w : World} {bs : List Nat} (h : GlW EKs w bs) : ∃ m, w.cell? ⟨1, 0, none⟩ = some (.int .i64 m) := by
  obtain ⟨_, c, t, fz, h1, m, rfl⟩ := h.one 1 true (by simp [EKs])
  exact ⟨m, by simp [World.cell?, h1]⟩
theorem gv_syn {w : World} {bs : List Nat} (h : GlW EKs w bs) : ∃ tp p, w.var? Tryd.prog "strconv.ErrSyntax" = some #[.iface tp p] := by
  obtain ⟨_, c, t, fz, h1, tp, p, rfl⟩ := h.one 3 false (by simp [EKs])
  unfold World.var?
  rw [show Tryd.prog.globalNamed "strconv.ErrSyntax" = some 3 by kernel_rfl, Option.bind_some, h1]
  exact ⟨tp, p, rfl⟩
theorem gv_rng {w : World} {bs : List Nat} (h : GlW EKs w bs) : ∃ tp p, w.var? Tryd.prog "strconv.ErrRange" = some #[.iface tp p] := by
  obtain ⟨_, c, t, fz, h1, tp, p, rfl⟩ := h.one 4 false (by simp [EKs])
  unfold World.var?
  rw [show Tryd.prog.globalNamed "strconv.ErrRange" = some 4 by kernel_rfl, Option.bind_some, h1]
  exact ⟨tp, p, rfl⟩
theorem K_strings_Split : Sound1 Tryd.prog EKs F_strings_Split.f S_strings_Split := by
  intro f args sp hsp hpre
  unfold tabF alook at hsp
  cases hb : Nat.beq f F_strings_Split.f with
  | false => rw [hb] at hsp; cases hsp
  | true =>
    rw [hb] at hsp
    have he := Nat.eq_of_beq_eq_true hb
    subst he
    have hsp : S_strings_Split args = some sp := hsp
    unfold S_strings_Split at hsp
    split at hsp
    · rename_i s sep _
      cases hsp
      obtain ⟨h0, h1⟩ := of_decide_eq_true hpre
      refine ⟨⟨_, Tryd.func36, by kernel_rfl, by kernel_rfl⟩, fun _ w A B vals bs hargs hnd hA hBA hgl => ?_, fun hg => by cases hg⟩
      cases hargs with
      | c g1 t1 => cases t1 with
        | c g2 t2 =>
          cases t2; cases g1; cases g2
          obtain ⟨m, hm⟩ := gv_max hgl
          obtain ⟨e1, e2⟩ := split_cut (s := s) h1
          refine (shelf_strings_Split s sep m w (by omega) hm (by omega)).mono fun e w' he => ?_
          obtain ⟨rfl, rfl⟩ := he
          rw [e1, ← e2]
          refine ⟨_, rfl, Chg.alloc _ _ _, fun j => j = w.heap.size, fun j hj => .inl (by subst hj; exact ⟨Nat.le_refl _, by simp⟩), .nil, [_], rfl, .cons ?_ .nil⟩
          refine ⟨_, _, rfl, Nat.le_refl _, fun _ => ⟨_, rfl, rfl, fun j c hj => ?_⟩⟩
          have hj : ((cutB (UInt8.ofNat (bA sep 0)) s).map fun x => DC.sc (.string x))[j]? = some c := hj
          rw [List.getElem?_map] at hj
          obtain ⟨x, hx, rfl⟩ := Option.map_eq_some_iff.1 hj
          refine ⟨.string x, ?_, rfl⟩
          have hadd : (⟨w.heap.size, 0, none⟩ : Addr).add j = ⟨w.heap.size, j, none⟩ := by unfold Addr.add; split <;> simp_all
          rw [hadd]
          have hnew : ∀ o : Obj, (w.alloc o).heap[w.heap.size]? = some o := fun o => by
            rw [show (w.alloc o).heap = w.heap.push o from rfl]
            exact Array.getElem?_push_size
          unfold World.cell?
          rw [hnew]
          simp [hx]
    · cases hsp
theorem K_strings_Cut : Sound1 Tryd.prog EKs F_strings_Cut.f S_strings_Cut := by
  intro f args sp hsp hpre
  unfold tabF alook at hsp
  cases hb : Nat.beq f F_strings_Cut.f with
  | false => rw [hb] at hsp; cases hsp
  | true =>
    rw [hb] at hsp
    have he := Nat.eq_of_beq_eq_true hb
    subst he
    have hsp : S_strings_Cut args = some sp := hsp
    unfold S_strings_Cut at hsp
    split at hsp
    · rename_i s sep _
      cases hsp
      obtain ⟨h0, h1⟩ := of_decide_eq_true hpre
      refine ⟨⟨_, Tryd.func37, by kernel_rfl, by kernel_rfl⟩, fun _ w A B vals bs hargs hnd hA hBA hgl => ?_, fun hg => by cases hg⟩
      cases hargs with
      | c g1 t1 => cases t1 with
        | c g2 t2 =>
          cases t2; cases g1; cases g2
          obtain ⟨m, hm⟩ := gv_max hgl
          refine (shelf_strings_Cut s sep m w (by omega) hm).mono fun e w' he => ?_
          rw [lib_cut h1] at he
          obtain ⟨rfl, n, rfl⟩ := he
          exact ⟨_, rfl, ⟨rfl, rfl, rfl, Nat.le_refl _, fun _ _ _ => rfl⟩, fun _ => False, fun j hj => hj.elim, .nil, [_, _, _], rfl, .cons rfl (.cons rfl (.cons rfl .nil))⟩
    · cases hsp
theorem tab_below {w w' : World} (h : Lib.TabIs Tryd.prog w "internal/strconv.uint64pow10" .u64 Lib.pow10Tab) (hb : Below w.heap.size w w') : Lib.TabIs Tryd.prog w' "internal/strconv.uint64pow10" .u64 Lib.pow10Tab := by
  unfold Lib.TabIs World.var? at *
  rw [show Tryd.prog.globalNamed "internal/strconv.uint64pow10" = some 2 by kernel_rfl, Option.bind_some] at *
  have hlt : 2 < w.heap.size := by
    rcases Nat.lt_or_ge 2 w.heap.size with h2 | h2
    · exact h2
    · rw [Array.getElem?_eq_none h2] at h; cases h
  rw [hb.block 2 hlt]
  exact h
theorem bytes_below (w : World) (t : ByteArray) : Below w.heap.size w (Lib.bytesWorld w 5 t) := ⟨rfl, rfl, rfl, by rw [Go.Lib.bytesWorld_size]; omega, fun j hj => Go.Lib.bytesWorld_at_old w 5 t j hj⟩
def NumPost (s : ByteArray) (w : World) (e : Ending) (w' : World) : Prop := e = .returned (.tuple #[.int .i64 (if numB s < 0 then 0 else numB s), .bool (decide (0 ≤ numB s))]) ∧ Below w.heap.size w w'
set_option maxHeartbeats 4000000 in
set_option maxRecDepth 100000 in
theorem number_ok (s : ByteArray) (w : World) (hs : s.size < 100000000) (hT : Lib.TabIs Tryd.prog w "internal/strconv.uint64pow10" .u64 Lib.pow10Tab) (hn : 0 ≤ numB s) : Calls Tryd.prog 39 #[.string s] w (NumPost s w) := by
  have cA := (shelf_strconv_Atoi_ok s (by omega) (numB s) (num_atoi hn) w).mono fun e w' h => (⟨h.1, by rcases h.2 with rfl | ⟨t, rfl⟩; exact Below.refl _ _; exact bytes_below w t⟩ : e = .returned (.tuple #[.int .i64 (numB s), .nilIface]) ∧ Below w.heap.size w w')
  have hlt := num_lt hn
  have hlt : numB s < 1000000 := hlt
  obtain ⟨h1, h2, _⟩ := num_dec hn
  have hsz : s.size ≤ 6 := by rw [show s.size = s.data.toList.length from by rw [Array.length_toList]; rfl]; exact h2.2
  have hit : (⟨(Lib.itoa (numB s)).toArray⟩ : ByteArray) = s := by
    unfold Lib.itoa
    rw [if_neg (by omega), show (numB s).toNat = (numL s.data.toList).toNat from rfl, h1]
  have e0 : decide (numB s < 0) = false := decide_eq_false (by omega)
  have e1 : decide (6 < (s.size : Int)) = false := decide_eq_false (by omega)
  have e2 : decide ((s.size : Int) > 6) = false := decide_eq_false (by omega)
  go_enter Tryd.func39, Tryd.ntmps39
  go_wp2_with (go_at_call 53; go_fit cA; rintro e w1 ⟨rfl, hb1⟩)
  go_wp2_with (go_at_call 30; go_fit (shelf_strconv_Itoa (numB s) (by omega) (by omega) w1 (tab_below hT hb1)); rintro e w2 ⟨rfl, k, os, rfl⟩)
  go_ret2
  exact ⟨by rw [if_neg (by omega), decide_eq_true hn]; rfl, hb1.trans ⟨rfl, rfl, rfl, (Lib.below_grow _ w1 (Nat.le_refl _) k os).size, fun j hj => (Lib.below_grow _ w1 (Nat.le_refl _) k os).block j (Nat.lt_of_lt_of_le hj hb1.size)⟩⟩
set_option maxHeartbeats 4000000 in
set_option maxRecDepth 100000 in
theorem number_err (s : ByteArray) (w : World) (hn : ¬ 0 ≤ numB s) (v : Int) (cA : Calls Tryd.prog 53 #[.string s] w fun e w' => ∃ N, e = .returned (.tuple #[.int .i64 v, .iface 97 (.pointer (some ⟨N, 0, none⟩))]) ∧ Below w.heap.size w w') : Calls Tryd.prog 39 #[.string s] w (NumPost s w) := by
  go_enter Tryd.func39, Tryd.ntmps39
  go_wp2_with (go_at_call 53; go_fit cA; rintro e w1 ⟨N, rfl, hb1⟩)
  go_ret2
  exact ⟨by rw [if_pos (by omega), decide_eq_false (show ¬ 0 ≤ numB s by omega)]; rfl, hb1⟩
set_option maxHeartbeats 4000000 in
set_option maxRecDepth 100000 in
theorem number_not (s : ByteArray) (w : World) (hs : s.size < 100000000) (hT : Lib.TabIs Tryd.prog w "internal/strconv.uint64pow10" .u64 Lib.pow10Tab) (hn : ¬ 0 ≤ numB s) (v : Int) (ha : Lib.atoiAll s.data.toList = .ok v) : Calls Tryd.prog 39 #[.string s] w (NumPost s w) := by
  have cA := (shelf_strconv_Atoi_ok s (by omega) v ha w).mono fun e w' h => (⟨h.1, by rcases h.2 with rfl | ⟨t, rfl⟩; exact Below.refl _ _; exact bytes_below w t⟩ : e = .returned (.tuple #[.int .i64 v, .nilIface]) ∧ Below w.heap.size w w')
  have hv := atoi_le ha
  have hfin : (Value.tuple #[.int .i64 (if numB s < 0 then 0 else numB s), .bool (decide (0 ≤ numB s))]) = .tuple #[.int .i64 0, .bool false] := by rw [if_pos (by omega), decide_eq_false hn]
  have hss : s.data.toList.length = s.size := by rw [Array.length_toList]; rfl
  by_cases h0 : v < 0
  · have e0 : decide (v < 0) = true := decide_eq_true h0
    go_enter Tryd.func39, Tryd.ntmps39
    go_wp2_with (go_at_call 53; go_fit cA; rintro e w1 ⟨rfl, hb1⟩)
    go_ret2
    exact ⟨by rw [hfin]; rfl, hb1⟩
  · by_cases h6 : s.size ≤ 6
    · have e0 : decide (v < 0) = false := decide_eq_false h0
      have e1 : decide (6 < (s.size : Int)) = false := decide_eq_false (by omega)
      have hne : (⟨(Lib.itoa v).toArray⟩ : ByteArray) ≠ s := fun e => num_neg (l := s.data.toList) (v := v) (show numB s < 0 by omega) (by omega) (by omega) (by rw [← e])
      have hn2 : (Lib.itoa v == s.toList) = false := beq_eq_false_iff_ne.2 fun e => num_neg (l := s.data.toList) (v := v) (show numB s < 0 by omega) (by omega) (by omega) (e.trans (Go.ByteArray.toList_eq s))
      go_enter Tryd.func39, Tryd.ntmps39
      go_wp2_with (go_at_call 53; go_fit cA; rintro e w1 ⟨rfl, hb1⟩)
      go_wp2_with (go_at_call 30; go_fit (shelf_strconv_Itoa v (by omega) (by omega) w1 (tab_below hT hb1)); rintro e w2 ⟨rfl, k, os, rfl⟩)
      · go_ret2
        exact ⟨by rw [hfin]; rfl, hb1.trans ⟨rfl, rfl, rfl, (Lib.below_grow _ w1 (Nat.le_refl _) k os).size, fun j hj => (Lib.below_grow _ w1 (Nat.le_refl _) k os).block j (Nat.lt_of_lt_of_le hj hb1.size)⟩⟩
    · have e0 : decide (v < 0) = false := decide_eq_false h0
      have e1 : decide (6 < (s.size : Int)) = true := decide_eq_true (by omega)
      go_enter Tryd.func39, Tryd.ntmps39
      go_wp2_with (go_at_call 53; go_fit cA; rintro e w1 ⟨rfl, hb1⟩)
      go_ret2
      exact ⟨by rw [hfin]; rfl, hb1⟩
theorem number_calls (s : ByteArray) (w : World) (bs : List Nat) (hs : s.size < 100000000) (hgl : GlW EKs w bs) : Calls Tryd.prog 39 #[.string s] w (NumPost s w) := by
  by_cases hn : 0 ≤ numB s
  · exact number_ok s w hs (tab_is hgl) hn
  · cases ha : Lib.atoiAll s.data.toList
    · exact number_not s w hs (tab_is hgl) hn _ ha
    · obtain ⟨tp, p, hv⟩ := gv_syn hgl
      exact number_err s w hn 0 ((Any.strconv_Atoi_syntax_var shelf_laysC172 s (by omega) ha tp p w hv).mono fun e w' ⟨N, h1, _, _, h2⟩ => ⟨N, h1, h2⟩)
    · obtain ⟨tp, p, hv⟩ := gv_rng hgl
      exact number_err s w hn _ ((shelf_strconv_Atoi_range_var s (by omega) ha tp p w hv).mono fun e w' ⟨N, h1, _, _, h2⟩ => ⟨N, h1, h2⟩)
theorem K_impl_number : Sound1 Tryd.prog EKs F_impl_number.f S_impl_number := by
  intro f args sp hsp hpre
  unfold tabF alook at hsp
  cases hb : Nat.beq f F_impl_number.f with
  | false => rw [hb] at hsp; cases hsp
  | true =>
    rw [hb] at hsp
    have he := Nat.eq_of_beq_eq_true hb
    subst he
    have hsp : S_impl_number args = some sp := hsp
    unfold S_impl_number at hsp
    split at hsp
    · rename_i s _
      cases hsp
      have h0 := of_decide_eq_true hpre
      refine ⟨⟨_, Tryd.func39, by kernel_rfl, by kernel_rfl⟩, fun _ w A B vals bs hargs hnd hA hBA hgl => ?_, fun hg => by cases hg⟩
      cases hargs with
      | c g1 t1 =>
        cases t1; cases g1
        refine (number_calls s w _ h0 hgl).mono fun e w' he => ?_
        obtain ⟨rfl, hb⟩ := he
        exact ⟨_, rfl, below_chg hb _, fun _ => False, fun j hj => hj.elim, .nil, [_, _], rfl, .cons rfl (.cons rfl .nil)⟩
    · cases hsp
end
end Go.Proofs.YtbgheffgkncpgaaDoor.V
