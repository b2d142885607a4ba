/- What functions come to, and that they do so; conditions: those that each theorem states. -/
import Derived.Test.YtbgheffgkncpgaaDoorSh
set_option linter.unusedVariables false
set_option linter.unusedSimpArgs false
namespace Go.Proofs.YtbgheffgkncpgaaDoor.V
open Go Vx Vx.N
/-! ### SHA-256, in words of 32 bits -/
abbrev Ws (l : List Int) : DA := .c (.row (.ints .u32 l))
def w32 (x : Int) : Int := IntKind.wrap .u32 x
def xorW (a b : Int) : Int := IntKind.wrap .u32 ((BitVec.ofInt (IntKind.bits .u32) a ^^^ BitVec.ofInt (IntKind.bits .u32) b).toNat : Int)
def orW (a b : Int) : Int := IntKind.wrap .u32 ((BitVec.ofInt (IntKind.bits .u32) a ||| BitVec.ofInt (IntKind.bits .u32) b).toNat : Int)
def andW (a b : Int) : Int := IntKind.wrap .u32 ((BitVec.ofInt (IntKind.bits .u32) a &&& BitVec.ofInt (IntKind.bits .u32) b).toNat : Int)
def addW (a b : Int) : Int := IntKind.wrap .u32 (a + b)
def shlW (a : Int) (n : Nat) : Int := IntKind.wrap .u32 (a * 2 ^ min n (IntKind.bits .u32))
def shrW (a : Int) (n : Nat) : Int := Int.fdiv a (2 ^ min n (IntKind.bits .u32))
def notW (a : Int) : Int := xorW (IntKind.max .u32) a
def rotW (x n : Int) : Int := orW (shrW x n.toNat) (shlW x (IntKind.wrap .i64 (32 - n)).toNat)
noncomputable def S_spec_l1Turn : List DA → Option Sp
  | [.c (.sc (.int .u32 x)), .c (.sc (.int .i64 n))] => some ⟨decide (0 ≤ n ∧ n ≤ 32), [.c (.sc (.int .u32 (rotW x n)))], [], .fresh⟩
  | _ => none
noncomputable def S_impl_rolled : List DA → Option Sp := S_spec_l1Turn
abbrev shaK : List Int := tab0
noncomputable def S_spec_l1Consts : List DA → Option Sp
  | [] => some ⟨true, [Ws shaK], [], .mix [.own]⟩
  | _ => none
/-- Bytes with what is put behind them. -/
def padN (n : Nat) : Nat := (119 - n % 64) % 64
def padE (n : Int) : List Int := [56, 48, 40, 32, 24, 16, 8, 0].map fun k => IntKind.wrap .u8 (Int.fdiv n (2 ^ k))
def padL (s : ByteArray) : List Int := bytesL s ++ [128] ++ List.replicate (padN s.size) 0 ++ padE ((s.size : Int) * 8)
noncomputable def S_spec_l1Padded : List DA → Option Sp
  | [.c (.sc (.string s))] => some ⟨decide (s.size < 1000000000), [Bs (padL s)], [], .mix [.own]⟩
  | _ => none
/-- The words of a block. -/
def wAt (b : List Int) (i : Nat) : Int := orW (orW (orW (shlW (IntKind.wrap .u32 (b.getD (4 * i) 0)) 24) (shlW (IntKind.wrap .u32 (b.getD (4 * i + 1) 0)) 16)) (shlW (IntKind.wrap .u32 (b.getD (4 * i + 2) 0)) 8)) (IntKind.wrap .u32 (b.getD (4 * i + 3) 0))
def sg0 (x : Int) : Int := xorW (xorW (rotW x 7) (rotW x 18)) (shrW x 3)
def sg1 (y : Int) : Int := xorW (xorW (rotW y 17) (rotW y 19)) (shrW y 10)
def wNext (w : List Int) (i : Nat) : Int := addW (addW (addW (w.getD (i - 16) 0) (sg0 (w.getD (i - 15) 0))) (w.getD (i - 7) 0)) (sg1 (w.getD (i - 2) 0))
def sched (b : List Int) : Nat → List Int
  | 0 => []
  | n + 1 => sched b n ++ [if n < 16 then wAt b n else wNext (sched b n) n]
noncomputable def S_spec_l1Words : List DA → Option Sp
  | [.c (.row (.ints .u8 b))] => some ⟨decide (b.length = 64), [Ws (sched b 64)], [], .mix [.own]⟩
  | _ => none
/-- A round. -/
def Sg0 (a : Int) : Int := xorW (xorW (rotW a 2) (rotW a 13)) (rotW a 22)
def Sg1 (e : Int) : Int := xorW (xorW (rotW e 6) (rotW e 11)) (rotW e 25)
def chW (e f g : Int) : Int := xorW (andW e f) (andW (notW e) g)
def majW (a b c : Int) : Int := xorW (xorW (andW a b) (andW a c)) (andW b c)
def t1W (s : List Int) (k w : Int) : Int := addW (addW (addW (addW (s.getD 7 0) (Sg1 (s.getD 4 0))) (chW (s.getD 4 0) (s.getD 5 0) (s.getD 6 0))) k) w
def rndW (s : List Int) (k w : Int) : List Int :=
  [addW (addW (t1W s k w) (Sg0 (s.getD 0 0))) (majW (s.getD 0 0) (s.getD 1 0) (s.getD 2 0)), s.getD 0 0, s.getD 1 0, s.getD 2 0, addW (s.getD 3 0) (t1W s k w), s.getD 4 0, s.getD 5 0, s.getD 6 0]
def rnds (h w : List Int) : Nat → List Int
  | 0 => h
  | n + 1 => rndW (rnds h w n) (shaK.getD n 0) (w.getD n 0)
def sumW (h s : List Int) : List Int := [addW (h.getD 0 0) (s.getD 0 0), addW (h.getD 1 0) (s.getD 1 0), addW (h.getD 2 0) (s.getD 2 0), addW (h.getD 3 0) (s.getD 3 0), addW (h.getD 4 0) (s.getD 4 0), addW (h.getD 5 0) (s.getD 5 0), addW (h.getD 6 0) (s.getD 6 0), addW (h.getD 7 0) (s.getD 7 0)]
def blkW (h b : List Int) : List Int := sumW h (rnds h (sched b 64) 64)
noncomputable def S_spec_l1Block : List DA → Option Sp
  | [.c (.row (.ints .u32 h)), .c (.row (.ints .u8 b))] => some ⟨decide (h.length = 8 ∧ b.length = 64), [Ws (blkW h b)], [], .mix [.own]⟩
  | _ => none
def shaH : List Int := [1779033703, 3144134277, 1013904242, 2773480762, 1359893119, 2600822924, 528734635, 1541459225]
/-- Block by block: n of them. -/
def blksW : Nat → List Int → List Int → List Int
  | 0, h, _ => h
  | n + 1, h, b => blksW n (blkW h (b.take 64)) (b.drop 64)
def outW (h : List Int) : List Int := h.flatMap fun x => [IntKind.wrap .u8 (shrW x 24), IntKind.wrap .u8 (shrW x 16), IntKind.wrap .u8 (shrW x 8), IntKind.wrap .u8 x]
def sumS (s : ByteArray) : ByteArray := strOf (outW (blksW ((padL s).length / 64) shaH (padL s)))
noncomputable def S_spec_l1Sum : List DA → Option Sp
  | [.c (.sc (.string s))] => some ⟨decide (s.size < 1000000000), [T (sumS s)], [], .fresh⟩
  | _ => none
noncomputable def S_impl_sha256Of : List DA → Option Sp := S_spec_l1Sum
def hexC (n : Int) : Int := bt ⟨#[48, 49, 50, 51, 52, 53, 54, 55, 56, 57, 97, 98, 99, 100, 101, 102]⟩ n
def hexL (l : List Int) : List Int := l.flatMap fun x => [hexC (IntKind.wrap .u8 (Int.tdiv x 16)), hexC (Int.tmod x 16)]
def hexS (s : ByteArray) : ByteArray := strOf (hexL (bytesL s))
noncomputable def S_spec_l1Hex : List DA → Option Sp
  | [.c (.sc (.string s))] => some ⟨decide (s.size < 1000000000), [T (hexS s)], [], .fresh⟩
  | _ => none
noncomputable def S_impl_hexOf : List DA → Option Sp := S_spec_l1Hex
noncomputable def S_spec_HashSum : List DA → Option Sp
  | [.c (.sc (.string s))] => some ⟨decide (s.size < 100000000), [T (hexS (sumS s))], [], .fresh⟩
  | _ => none
noncomputable def S_impl_HashSum : List DA → Option Sp := S_spec_HashSum
end Go.Proofs.YtbgheffgkncpgaaDoor.V
