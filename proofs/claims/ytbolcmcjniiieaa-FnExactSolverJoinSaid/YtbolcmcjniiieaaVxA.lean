/- An executor of the model's code over abstract states: rows with owners, boxes, slots. Plain definitions. Conditions: those that each theorem states. -/
import GoSem.Step
import Derived.Calls
import Derived.Laws.AppendOwn
import Derived.Below
import Derived.WideLaws
set_option linter.unusedVariables false
set_option linter.unusedSimpArgs false
namespace Vx
open Go
/-! Whole numbers are compared so that the kernel stands still soon, where they are not known. -/
def leB : Int → Int → Bool
  | .ofNat m, .ofNat n => Nat.ble m n
  | .negSucc m, .negSucc n => Nat.ble n m
  | .negSucc _, .ofNat _ => true
  | .ofNat _, .negSucc _ => false
theorem leB_iff {a b : Int} : leB a b = true ↔ a ≤ b := by
  cases a <;> cases b <;> simp [leB, Nat.ble_eq] <;> omega
instance (priority := 100000) decLeK (a b : Int) : Decidable (a ≤ b) := decidable_of_iff (leB a b = true) leB_iff
instance (priority := 100000) decLtK (a b : Int) : Decidable (a < b) := decidable_of_iff (leB (a + 1) b = true) leB_iff

/-- Kinds of rows: whole numbers; strings; equations (a row of numbers and a string). -/
inductive RK where
  | ints (k : IntKind) | strs | eqs
  /-- Equations, owned together with their inner rows. -/
  | deqs
  /-- An array of whole numbers, where it lies. -/
  | arr (k : IntKind) (n : Nat)
/-- What a slice holds. -/
inductive Row where
  | ints (k : IntKind) (xs : List Int)
  | strs (xs : List ByteArray)
  | eqs (xs : List (List Int × ByteArray))
  | deqs (xs : List (List Int × ByteArray))
  | arr (k : IntKind) (xs : List Int)
/-- A cell of an element of a row. -/
inductive DC where
  | sc (v : Value)
  | ir (xs : List Int)
/-- A cell of a slot or a box. -/
inductive Cell where
  | sc (v : Value)
  | ro (fr : Bool) (d : Row)
  | ref (i : Nat)
inductive V1 where
  | cell (c : Cell)
  | agg (cs : List Cell)
inductive AV where
  | v (x : V1)
  | tup (vs : List V1)
  | bx (b off : Nat)
  | pe (fr : Bool) (cs : List DC)
  | pr (i e off : Nat)
  | vw (i lo hi : Nat)
  /-- An array of one's own; a cell of a package's table. -/
  | ap (i : Nat)
  | gp (g i : Nat)
inductive Loc where
  | t (n : Nat) | r (n : Nat) | b (n : Nat)
  deriving DecidableEq
inductive Ct where
  | no
  | dead
  | av (x : AV)
  | row (own fr : Bool) (d : Row)
  | box (cs : List Cell)
/-- Data across a call. -/
inductive SC where
  | sc (v : Value)
  | row (d : Row)
inductive DA where
  | c (x : SC)
  | agg (xs : List SC)
  | bx (xs : List SC)
/-- Rows of the results: some of them the caller's own from then on, the others new; all of them new; what may be shared. -/
inductive RF where
  | own | new | any
inductive Md where
  | mix (os : List RF) | fresh | alias
  /-- Rows of one's own are handed over and a new one is handed back; they are written where they lie. -/
  | take | write
structure Sp where
  pre : Bool
  res : List DA
  outs : List (List SC)
  mode : Md

def Loc.beq : Loc → Loc → Bool
  | .t n, .t m => Nat.beq n m
  | .r n, .r m => Nat.beq n m
  | .b n, .b m => Nat.beq n m
  | _, _ => false
theorem Loc.beq_iff {l m : Loc} : l.beq m = true ↔ l = m := by
  cases l <;> cases m <;> simp [Loc.beq, Nat.beq_eq]
abbrev St := List (Loc × Ct)
def get : St → Loc → Ct
  | [], _ => .no
  | (m, c) :: σ, l => match l.beq m with
    | true => c
    | false => get σ l

def Row.len : Row → Nat
  | .ints _ xs => xs.length
  | .strs xs => xs.length
  | .eqs xs => xs.length
  | .deqs xs => xs.length
  | .arr _ xs => xs.length
def Row.wd : Row → Nat
  | .ints _ _ => 1
  | .strs _ => 1
  | .eqs _ => 2
  | .deqs _ => 2
  | .arr _ _ => 1
def Row.kind : Row → RK
  | .ints k _ => .ints k
  | .strs _ => .strs
  | .eqs _ => .eqs
  | .deqs _ => .deqs
  | .arr k xs => .arr k xs.length
def Row.nil : RK → Row
  | .ints k => .ints k []
  | .strs => .strs []
  | .eqs => .eqs []
  | .deqs => .deqs []
  | .arr k _ => .arr k []
def eqD : List Int × ByteArray := ([], ⟨#[]⟩)
/-- The cells of element i. -/
def Row.cells : Row → Nat → List DC
  | .ints k xs, i => [.sc (.int k (xs.getD i 0))]
  | .strs xs, i => [.sc (.string (xs.getD i ⟨#[]⟩))]
  | .eqs xs, i => [.ir (xs.getD i eqD).1, .sc (.string (xs.getD i eqD).2)]
  | .deqs xs, i => [.ir (xs.getD i eqD).1, .sc (.string (xs.getD i eqD).2)]
  | .arr k xs, i => [.sc (.int k (xs.getD i 0))]
def Row.flat : Row → List DC
  | .ints k xs => xs.map fun x => .sc (.int k x)
  | .strs xs => xs.map fun x => .sc (.string x)
  | .eqs xs => xs.flatMap fun x => [.ir x.1, .sc (.string x.2)]
  | .deqs xs => xs.flatMap fun x => [.ir x.1, .sc (.string x.2)]
  | .arr k xs => xs.map fun x => .sc (.int k x)
/-- Is a row owned together with its elements' inner rows? -/
def Row.deep : Row → Bool
  | .deqs _ => true
  | _ => false
/-- As it is read. -/
def Row.shal : Row → Row
  | .deqs xs => .eqs xs
  | d => d
/-- Bytes: their row may bear a mark behind its cells ('[]byte(s)'). -/
def Row.isB : Row → Bool
  | .ints .u8 _ => true
  | _ => false
def IntKind.eqb : IntKind → IntKind → Bool
  | .i8, .i8 | .i16, .i16 | .i32, .i32 | .i64, .i64 | .u8, .u8 | .u16, .u16 | .u32, .u32 | .u64, .u64 => true
  | _, _ => false
theorem IntKind.eqb_iff {k l : IntKind} : IntKind.eqb k l = true ↔ k = l := by
  cases k <;> cases l <;> simp [IntKind.eqb]
def Row.app : Row → Row → Option Row
  | .ints k xs, .ints l ys => match IntKind.eqb k l with
    | true => some (.ints k (xs ++ ys))
    | false => none
  | .strs xs, .strs ys => some (.strs (xs ++ ys))
  | .eqs xs, .eqs ys => some (.eqs (xs ++ ys))
  | _, _ => none
def Row.sub : Row → Nat → Nat → Row
  | .ints k xs, lo, hi => .ints k ((xs.take hi).drop lo)
  | .strs xs, lo, hi => .strs ((xs.take hi).drop lo)
  | .eqs xs, lo, hi => .eqs ((xs.take hi).drop lo)
  | .deqs xs, lo, hi => .deqs ((xs.take hi).drop lo)
  | .arr k xs, lo, hi => .arr k ((xs.take hi).drop lo)
def RK.eqb : RK → RK → Bool
  | .ints k, .ints l => IntKind.eqb k l
  | .strs, .strs => true
  | .eqs, .eqs => true
  | .deqs, .deqs => true
  | .arr k n, .arr l m => IntKind.eqb k l && Nat.beq n m
  | _, _ => false
def RK.isArr : RK → Bool
  | .arr _ _ => true
  | .deqs => true
  | _ => false
theorem RK.eqb_iff {k l : RK} : RK.eqb k l = true ↔ k = l := by
  cases k <;> cases l <;> simp [RK.eqb, IntKind.eqb_iff]

/-! ### Reading what is there, and telling what to write -/
inductive Rd (α : Type) where
  | ret (x : α)
  | fail
  | ask (l : Loc) (k : Ct → Rd α)
  | br (c : Bool) (t e : Rd α)
def Rd.bind {α β : Type} : Rd α → (α → Rd β) → Rd β
  | .ret x, f => f x
  | .fail, _ => .fail
  | .ask l k, f => .ask l fun c => (k c).bind f
  | .br c t e, f => .br c (t.bind f) (e.bind f)
instance : Monad Rd where
  pure := Rd.ret
  bind := Rd.bind
def Rd.run {α : Type} : Rd α → (Loc → Ct) → Option α
  | .ret x, _ => some x
  | .fail, _ => none
  | .ask l k, g => (k (g l)).run g
  | .br c t e, g => match c with
    | true => t.run g
    | false => e.run g
def Rd.reads {α : Type} : Rd α → (Loc → Ct) → List Loc
  | .ret _, _ => []
  | .fail, _ => []
  | .ask l k, g => l :: (k (g l)).reads g
  | .br c t e, g => match c with
    | true => t.reads g
    | false => e.reads g
def lookupK {R : Type} : St → Loc → (Ct → Option R) → Option R
  | [], _, k => k .no
  | (m, c) :: σ, l, k => match l.beq m with
    | true => k c
    | false => lookupK σ l k
def Rd.runK {α R : Type} : Rd α → St → List Loc → (α → List Loc → Option R) → Option R
  | .ret x, _, rs, k => k x rs
  | .fail, _, _, _ => none
  | .ask l f, σ, rs, k => lookupK σ l fun c => (f c).runK σ (l :: rs) k
  | .br c t e, σ, rs, k => match c with
    | true => t.runK σ rs k
    | false => e.runK σ rs k
def Rd.test (c : Bool) {α : Type} (m : Rd α) : Rd α := .br c m .fail

/-! ### What is known of the types -/
inductive ZC where
  | int (k : IntKind) | bool | str | nil (k : RK)
inductive TK where
  | int (k : IntKind) | bool | str | slice (e : TypeId) | struct (fs : List (Nat × Nat)) | arr (k : IntKind) (e : TypeId) (n : Nat)
structure TI where
  k : TK
  size : Nat
  bytes : Nat
  zc : List ZC
/-- The element types of rows of one's own; the types of arrays; the tables of packages. -/
structure EK where
  ts : List (TypeId × RK)
  ar : List (TypeId × IntKind × Nat)
  gl : List (Nat × IntKind × List Int)
  /-- Variables of packages of one cell each: a whole number; an interface value that is not nil. -/
  gv : List (Nat × Bool)
structure Cx where
  ti : List (TypeId × TI)
  ek : EK
  Φ : FuncId → List DA → Option Sp
  /-- New rows of equations are owned together with their inner rows. -/
  dp : Bool
/-- The kind of a new row. -/
def upK : Bool → RK → RK
  | true, .eqs => .deqs
  | _, k => k
def alook {β : Type} : List (Nat × β) → Nat → Option β
  | [], _ => none
  | (m, x) :: l, n => match Nat.beq n m with
    | true => some x
    | false => alook l n
def Cx.tio (cx : Cx) (t : TypeId) : Rd TI := match alook cx.ti t with
  | some x => .ret x
  | none => .fail
def Cx.eko (cx : Cx) (t : TypeId) : Rd RK := match alook cx.ek.ts t with
  | some x => .ret x
  | none => .fail
/-- The element type of a row's kind. -/
def ekOfL : List (TypeId × RK) → RK → Option TypeId
  | [], _ => none
  | (e, k) :: l, x => match RK.eqb k x with
    | true => some e
    | false => ekOfL l x
def arOfL : List (TypeId × IntKind × Nat) → IntKind → Nat → Option TypeId
  | [], _, _ => none
  | (e, k, n) :: l, x, m => match IntKind.eqb k x && Nat.beq n m with
    | true => some e
    | false => arOfL l x m
def ekOf (E : EK) : RK → Option TypeId
  | .arr k n => arOfL E.ar k n
  | .deqs => ekOfL E.ts .eqs
  | k => ekOfL E.ts k

/-! ### The operations -/
def avOf (t : Tmp) : Rd AV := .ask (.t t) fun
  | .av x => .ret x
  | _ => .fail
def opv : Operand → Rd AV
  | .tmp t => avOf t
  | .const v => match v with
    | .bool _ => .ret (.v (.cell (.sc v)))
    | .int _ _ => .ret (.v (.cell (.sc v)))
    | .string _ => .ret (.v (.cell (.sc v)))
    | .pointer none => .ret (.v (.cell (.sc v)))
    | _ => .fail
  | .global g => .ret (.gp g 0)
  | _ => .fail
def scal (x : Operand) : Rd Value := (opv x).bind fun
  | .v (.cell (.sc v)) => .ret v
  | _ => .fail
def binR (op : BinOp) (x y : Value) : Rd Value :=
  match x, y with
  | .int k a, .int l b => match op with
    | .shl => .test (decide (0 ≤ b)) (.ret (.int k (k.wrap (a * 2 ^ min b.toNat k.bits))))
    | .shr => .test (decide (0 ≤ b)) (.ret (.int k (a.fdiv (2 ^ min b.toNat k.bits))))
    | .add => .test (IntKind.eqb k l) (.ret (.int k (k.wrap (a + b))))
    | .sub => .test (IntKind.eqb k l) (.ret (.int k (k.wrap (a - b))))
    | .mul => .test (IntKind.eqb k l) (.ret (.int k (k.wrap (a * b))))
    | .quo => .test (IntKind.eqb k l) (.test (!decide (b = 0)) (.ret (.int k (k.wrap (a.tdiv b)))))
    | .rem => .test (IntKind.eqb k l) (.test (!decide (b = 0)) (.ret (.int k (a.tmod b))))
    | .and => .test (IntKind.eqb k l) (.ret (.int k (k.wrap (BitVec.ofInt k.bits a &&& BitVec.ofInt k.bits b).toNat)))
    | .or => .test (IntKind.eqb k l) (.ret (.int k (k.wrap (BitVec.ofInt k.bits a ||| BitVec.ofInt k.bits b).toNat)))
    | .xor => .test (IntKind.eqb k l) (.ret (.int k (k.wrap (BitVec.ofInt k.bits a ^^^ BitVec.ofInt k.bits b).toNat)))
    | .eql => .test (IntKind.eqb k l) (.ret (.bool (a == b)))
    | .neq => .test (IntKind.eqb k l) (.ret (.bool (a != b)))
    | .lss => .test (IntKind.eqb k l) (.ret (.bool (decide (a < b))))
    | .leq => .test (IntKind.eqb k l) (.ret (.bool (decide (a ≤ b))))
    | .gtr => .test (IntKind.eqb k l) (.ret (.bool (decide (a > b))))
    | .geq => .test (IntKind.eqb k l) (.ret (.bool (decide (a ≥ b))))
    | _ => .fail
  | .string a, .string b => match op with
    | .add => .test (decide (a.size + b.size < 1099511627776)) (.ret (.string (a ++ b)))
    | .eql => .ret (.bool (a.toList == b.toList))
    | .neq => .ret (.bool (!(a.toList == b.toList)))
    | _ => .fail
  | _, _ => .fail
/-- Two Bools, alike or not. -/
def boolR (op : BinOp) (x y : Value) : Option (Rd Value) := match x, y with
  | .bool a, .bool b => some (match op with
    | .eql => .ret (.bool (a == b))
    | .neq => .ret (.bool (!(a == b)))
    | _ => .fail)
  | _, _ => none
def isBo : TK → Bool
  | .bool => true
  | _ => false
def unR (op : UnOp) (x : Value) : Rd Value :=
  match op, x with
  | .not, .bool b => .ret (.bool (!b))
  | .xor, .int k n => .ret (.int k (k.wrap (BitVec.ofInt k.bits (if k.signed then -1 else k.max) ^^^ BitVec.ofInt k.bits n).toNat))
  | _, _ => .fail
/-- A row that is looked at: its data, whether it is fresh. -/
def rowR : AV → Rd (Row × Bool)
  | .v (.cell (.ro fr d)) => .ret (d, fr)
  | .v (.cell (.ref i)) => .ask (.r i) fun
    | .row _ fr d => .test (!d.deep) (.ret (d, fr))
    | _ => .fail
  | .vw i lo hi => .ask (.r i) fun
    | .row _ fr d => .test (!d.deep) (.ret (d.sub lo hi, fr))
    | _ => .fail
  | _ => .fail
def bt (s : ByteArray) (i : Int) : Int := ((s.data.toList.getD i.toNat 0).toNat : Int)
def strOf (xs : List Int) : ByteArray := ⟨(xs.map fun n => UInt8.ofNat n.toNat).toArray⟩
def cellsOf : AV → Rd (List Cell)
  | .v (.cell c) => match c with
    | .sc (.int k n) => .ret [.sc (.int k n)]
    | .sc (.bool b) => .ret [.sc (.bool b)]
    | .sc (.string s) => .ret [.sc (.string s)]
    | .ro fr d => .ret [.ro fr d]
    | .ref i => .ask (.r i) fun
      | .row _ _ _ => .ret [.ref i]
      | _ => .fail
    | _ => .fail
  | .v (.agg cs) => .ret cs
  | _ => .fail
def newLoc {α : Type} (l : Loc) (m : Rd α) : Rd α := .ask l fun
  | .no => m
  | _ => .fail
/-- The cells of a zero value: rows of one's own for its nil slices. -/
def zeroR (dp : Bool) : List ZC → Nat → Rd (List Cell × List (Loc × Ct))
  | [], _ => .ret ([], [])
  | z :: zs, id => (zeroR dp zs (id + 1)).bind fun p => match z with
    | .int k => .ret (.sc (.int k 0) :: p.1, p.2)
    | .bool => .ret (.sc (.bool false) :: p.1, p.2)
    | .str => .ret (.sc (.string ⟨#[]⟩) :: p.1, p.2)
    | .nil k => newLoc (.r id) (.ret (.ref id :: p.1, (.r id, .row true true (Row.nil (upK dp k))) :: p.2))
def replAt {α : Type} (cs : List α) (off : Nat) (us : List α) : List α := cs.take off ++ us ++ cs.drop (off + us.length)
def fitR {α : Type} (n off : Nat) (cs : List α) : Bool := Nat.ble (off + n) cs.length
/-- The parts of a struct, put into its cells. -/
def fillR (fs : List (Nat × Nat)) : List (Nat × Operand) → List Cell → Rd (List Cell)
  | [], cs => .ret cs
  | (i, x) :: ps, cs => match fs[i]? with
    | none => .fail
    | some (off, sz) => (opv x).bind fun v => (cellsOf v).bind fun us =>
      .test (Nat.beq us.length sz && fitR sz off cs) (fillR fs ps (replAt cs off us))
/-- A cell that holds a row of numbers, to be put into an element: the numbers, freshness, the row that is to be frozen. -/
def innerR : Cell → Rd (List Int × Bool × List (Loc × Ct))
  | .ro fr (.ints .i64 xs) => .ret (xs, fr, [])
  | .ref i => .ask (.r i) fun
    | .row _ fr (.ints .i64 xs) => .ret (xs, fr, [(.r i, .row false fr (.ints .i64 xs))])
    | _ => .fail
  | _ => .fail
def eltsI (k : IntKind) : List Operand → Rd (List Int)
  | [] => .ret []
  | x :: l => (scal x).bind fun
    | .int k' a => .test (IntKind.eqb k k') ((eltsI k l).bind fun r => .ret (a :: r))
    | _ => .fail
def eltsS : List Operand → Rd (List ByteArray)
  | [] => .ret []
  | x :: l => (scal x).bind fun
    | .string a => (eltsS l).bind fun r => .ret (a :: r)
    | _ => .fail
def eltsE : List Operand → Rd (List (List Int × ByteArray) × Bool × List (Loc × Ct))
  | [] => .ret ([], true, [])
  | [x] => (opv x).bind fun
    | .v (.agg [c, .sc (.string s)]) => (innerR c).bind fun p => .ret ([(p.1, s)], p.2.1, p.2.2)
    | _ => .fail
  | _ => .fail
def idxOk : Nat → List (Nat × Operand) → Bool
  | _, [] => true
  | n, (i, _) :: l => Nat.beq i n && idxOk (n + 1) l
/-- With their inner rows. -/
def eltsD : List Operand → Rd (Row × Bool × List (Loc × Ct))
  | [] => .ret (.deqs [], true, [])
  | [x] => (opv x).bind fun
    | .v (.agg [.ref i, .sc (.string s)]) => .ask (.r i) fun
      | .row true fr (.ints .i64 xs) => .ret (.deqs [(xs, s)], fr, [(.r i, .dead)])
      | _ => .fail
    | _ => .fail
  | _ => .fail
def eltsR (k : RK) (l : List Operand) : Rd (Row × Bool × List (Loc × Ct)) :=
  match k with
  | .ints k => (eltsI k l).bind fun xs => .ret (.ints k xs, true, [])
  | .strs => (eltsS l).bind fun xs => .ret (.strs xs, true, [])
  | .eqs => (eltsE l).bind fun q => .ret (.eqs q.1, q.2.1, q.2.2)
  | .deqs => eltsD l
  | .arr _ _ => .fail
def asInt : AV → Rd Int
  | .v (.cell (.sc (.int _ n))) => .ret n
  | _ => .fail
def dcCell (fr : Bool) : DC → Cell
  | .sc v => .sc v
  | .ir xs => .ro fr (.ints .i64 xs)
def loadCs (isAgg : Bool) (cs : List Cell) : Rd AV :=
  match isAgg, cs with
  | true, cs => .ret (.v (.agg cs))
  | false, [c] => .ret (.v (.cell c))
  | _, _ => .fail
def isSt : TK → Bool
  | .struct _ => true
  | .arr _ _ _ => true
  | _ => false
/-- n cells of an array from j on. -/
def arrCells (k : IntKind) (xs : List Int) : Nat → Nat → List Cell
  | 0, _ => []
  | n + 1, j => .sc (.int k (xs.getD j 0)) :: arrCells k xs n (j + 1)
def cellInts (k : IntKind) : List Cell → Rd (List Int)
  | [] => .ret []
  | .sc (.int k' n) :: cs => .test (IntKind.eqb k k') ((cellInts k cs).bind fun r => .ret (n :: r))
  | _ :: _ => .fail
def loadR (ti : TI) (isAgg : Bool) : AV → Rd AV
  | .bx b off => .ask (.b b) fun
    | .box cs => .test (fitR ti.size off cs) (loadCs isAgg ((cs.drop off).take ti.size))
    | _ => .fail
  | .pe fr cs => .test (fitR ti.size 0 cs) (loadCs isAgg ((cs.take ti.size).map (dcCell fr)))
  | .pr i e off => .ask (.r i) fun
    | .row _ fr d => .test (!d.deep && fitR ti.size off (d.cells e)) (loadCs isAgg ((((d.cells e).drop off).take ti.size).map (dcCell fr)))
    | _ => .fail
  | .ap i => .ask (.r i) fun
    | .row _ _ (.arr k xs) => .test isAgg <| .test (decide (ti.size ≤ xs.length)) (.ret (.v (.agg (arrCells k xs ti.size 0))))
    | _ => .fail
  | _ => .fail
/-- Element e of a row, turned at cell 'off'. -/
def setR (d : Row) (e off : Nat) (cs : List Cell) : Rd (Row × Bool × List (Loc × Ct)) :=
  match d, off, cs with
  | .ints k xs, 0, [.sc (.int k' n)] => .test (IntKind.eqb k k') (.ret (.ints k (xs.set e n), true, []))
  | .strs xs, 0, [.sc (.string s)] => .ret (.strs (xs.set e s), true, [])
  | .eqs xs, 0, [c] => (innerR c).bind fun p => .ret (.eqs (xs.set e (p.1, (xs.getD e eqD).2)), p.2.1, p.2.2)
  | .eqs xs, 1, [.sc (.string s)] => .ret (.eqs (xs.set e ((xs.getD e eqD).1, s)), true, [])
  | .eqs xs, 0, [c, .sc (.string s)] => (innerR c).bind fun p => .ret (.eqs (xs.set e (p.1, s)), p.2.1, p.2.2)
  | .arr k xs, 0, [.sc (.int k' n)] => .test (IntKind.eqb k k') (.ret (.arr k (xs.set e n), true, []))
  | .deqs xs, 0, [.ref j, .sc (.string s)] => .ask (.r j) fun
    | .row true fr (.ints .i64 ys) => .ret (.deqs (xs.set e (ys, s)), fr, [(.r j, .dead)])
    | _ => .fail
  | _, _, _ => .fail
def oneC : Cell → Bool
  | .sc (.int _ _) => true
  | .sc (.bool _) => true
  | .sc (.string _) => true
  | .sc _ => false
  | _ => true
def storeR (ti : TI) (p : AV) (us : List Cell) : Rd (List (Loc × Ct)) :=
  match p with
  | .bx b off => .ask (.b b) fun
    | .box cs => .test (Nat.beq us.length ti.size && (fitR ti.size off cs && us.all oneC)) (.ret [(.b b, .box (replAt cs off us))])
    | _ => .fail
  | .pr i e off => .ask (.r i) fun
    | .row true fr d => .test (Nat.beq us.length ti.size) ((setR d e off us).bind fun q => .ret (q.2.2 ++ [(.r i, .row true (fr && q.2.1) q.1)]))
    | _ => .fail
  | .ap i => .ask (.r i) fun
    | .row true fr (.arr k xs) => .test (Nat.beq us.length ti.size) <| .test (decide (ti.size = xs.length)) ((cellInts k us).bind fun ys => .ret [(.r i, .row true fr (.arr k ys))])
    | _ => .fail
  | _ => .fail
def fieldR (ti : TI) (f : Nat) : AV → Rd AV
  | .bx b off => match ti.k with
    | .struct fs => match fs[f]? with
      | some (o, s) => .test (Nat.blt 0 s) (.ret (.bx b (off + o)))
      | none => .fail
    | _ => .fail
  | .pe fr cs => match ti.k with
    | .struct fs => match fs[f]? with
      | some (o, s) => .test (Nat.blt 0 s) (.ret (.pe fr (cs.drop o)))
      | none => .fail
    | _ => .fail
  | .pr i e off => match ti.k with
    | .struct fs => match fs[f]? with
      | some (o, s) => .test (Nat.blt 0 s) (.ret (.pr i e (off + o)))
      | none => .fail
    | _ => .fail
  | _ => .fail
def inR {α : Type} (i : Int) (n : Nat) (m : Rd α) : Rd α := .test (decide (0 ≤ i)) (.test (decide (i < (n : Int))) m)
def indexAddrR (sz : Nat) (x : AV) (i : Int) : Rd AV :=
  match x with
  | .v (.cell (.ro fr d)) => .test (Nat.beq sz d.wd) (inR i d.len (.ret (.pe fr (d.cells i.toNat))))
  | .v (.cell (.ref r)) => .ask (.r r) fun
    | .row _ _ d => .test (Nat.beq sz d.wd) (inR i d.len (.ret (.pr r i.toNat 0)))
    | _ => .fail
  | .vw r lo hi => .ask (.r r) fun
    | .row _ _ d => .test (Nat.beq sz d.wd) (inR i (hi - lo) (.ret (.pr r (lo + i.toNat) 0)))
    | _ => .fail
  | _ => .fail
def boundR (x : Option Operand) (dft : Int) : Rd Int :=
  match x with
  | none => .ret dft
  | some x => (opv x).bind asInt
def sliceS (s : ByteArray) (lo hi : Option Operand) : Rd AV :=
  (boundR lo 0).bind fun l => (boundR hi s.size).bind fun h =>
    .test (decide (0 ≤ l)) (.test (decide (l ≤ h)) (.test (decide (h ≤ (s.size : Int))) (.ret (.v (.cell (.sc (.string (s.extract l.toNat h.toNat))))))))
def sliceR (sz : Nat) (x : AV) (lo hi : Option Operand) : Rd AV :=
  match x with
  | .v (.cell (.ro fr d)) => (boundR lo 0).bind fun l => (boundR hi d.len).bind fun h => .test (Nat.beq sz d.wd) <|
    .test (decide (0 ≤ l)) (.test (decide (l ≤ h)) (.test (decide (h ≤ (d.len : Int))) (.ret (.v (.cell (.ro fr (d.sub l.toNat h.toNat)))))))
  | .v (.cell (.ref i)) => .ask (.r i) fun
    | .row _ _ d => (boundR lo 0).bind fun l => (boundR hi d.len).bind fun h => .test (Nat.beq sz d.wd) <|
      .test (decide (0 ≤ l)) (.test (decide (l ≤ h)) (.test (decide (h ≤ (d.len : Int))) (.ret (.vw i l.toNat h.toNat))))
    | _ => .fail
  | _ => .fail
def rkOfElem (cx : Cx) (t : TypeId) : Rd (TypeId × RK) := (cx.tio t).bind fun ti => match ti.k with
  | .slice e => (cx.eko e).bind fun k => .ret (e, k)
  | _ => .fail
def two40 : Nat := 1099511627776
def wr (dst : Option Tmp) (x : AV) : List (Loc × Ct) := match dst with
  | some d => [(.t d, .av x)]
  | none => []
/-! calls -/
/-- A cell as data; the rows of one's own that are lent. -/
def cellSC : Cell → Rd (SC × List Nat)
  | .sc v => .ret (.sc v, [])
  | .ro _ d => .ret (.row d, [])
  | .ref i => .ask (.r i) fun
    | .row own _ d => match own with
      | true => .ret (.row d, [i])
      | false => .ret (.row d, [])
    | _ => .fail
def cellsSC : List Cell → Rd (List SC × List Nat)
  | [] => .ret ([], [])
  | c :: cs => (cellSC c).bind fun p => (cellsSC cs).bind fun q => .ret (p.1 :: q.1, p.2 ++ q.2)
def argR : AV → Rd (DA × List Nat × List Nat)
  | .v (.cell c) => (cellSC c).bind fun p => .ret (.c p.1, p.2, [])
  | .v (.agg cs) => (cellsSC cs).bind fun p => .ret (.agg p.1, p.2, [])
  | .vw i lo hi => .ask (.r i) fun
    | .row own _ d => match own with
      | true => .ret (.c (.row (d.sub lo hi)), [i], [])
      | false => .ret (.c (.row (d.sub lo hi)), [], [])
    | _ => .fail
  | .bx b 0 => .ask (.b b) fun
    | .box cs => (cellsSC cs).bind fun p => .ret (.bx p.1, p.2, [b])
    | _ => .fail
  | _ => .fail
def argsR : List Operand → Rd (List DA × List Nat × List Nat)
  | [] => .ret ([], [], [])
  | x :: l => (opv x).bind fun v => (argR v).bind fun p => (argsR l).bind fun q => .ret (p.1 :: q.1, p.2.1 ++ q.2.1, p.2.2 ++ q.2.2)
def scCell (fr : Bool) : SC → Cell
  | .sc v => .sc v
  | .row d => .ro fr d
def resV1 (fr : Bool) : DA → Rd V1
  | .c x => .ret (.cell (scCell fr x))
  | .agg xs => .ret (.agg (xs.map (scCell fr)))
  | .bx _ => .fail
def resV1s (fr : Bool) : List DA → Rd (List V1)
  | [] => .ret []
  | x :: xs => (resV1 fr x).bind fun p => (resV1s fr xs).bind fun q => .ret (p :: q)
def resN (fr : Bool) (xs : List DA) : Rd (AV × List (Loc × Ct)) := (resV1s fr xs).bind fun p => match p with
  | [x] => .ret (.v x, [])
  | vs => .ret (.tup vs, [])
def mixCs (fl : Bool) : List SC → List RF → Nat → Rd (List Cell × List (Loc × Ct) × List RF × Nat)
  | [], os, id => .ret ([], [], os, id)
  | .sc v :: xs, os, id => (mixCs fl xs os id).bind fun p => .ret (.sc v :: p.1, p.2)
  | .row d :: xs, .new :: os, id => (mixCs fl xs os id).bind fun p => .ret (.ro fl d :: p.1, p.2)
  | .row d :: xs, .any :: os, id => (mixCs fl xs os id).bind fun p => .ret (.ro false d :: p.1, p.2)
  | .row d :: xs, .own :: os, id => newLoc (.r id) ((mixCs fl xs os (id + 1)).bind fun p => .ret (.ref id :: p.1, (.r id, .row true fl d) :: p.2.1, p.2.2))
  | .row _ :: _, [], _ => .fail
def mixVs (fl : Bool) : List DA → List RF → Nat → Rd (List V1 × List (Loc × Ct))
  | [], _, _ => .ret ([], [])
  | .c x :: l, os, id => (mixCs fl [x] os id).bind fun p => match p.1 with
    | [c] => (mixVs fl l p.2.2.1 p.2.2.2).bind fun q => .ret (.cell c :: q.1, p.2.1 ++ q.2)
    | _ => .fail
  | .agg xs :: l, os, id => (mixCs fl xs os id).bind fun p => (mixVs fl l p.2.2.1 p.2.2.2).bind fun q => .ret (.agg p.1 :: q.1, p.2.1 ++ q.2)
  | .bx _ :: _, _, _ => .fail
def resR (fl al : Bool) (m : Md) (id : Nat) (xs : List DA) : Rd (AV × List (Loc × Ct)) :=
  match m, xs with
  | .mix os, xs => (mixVs fl xs os id).bind fun p => match p.1 with
    | [x] => .ret (.v x, p.2)
    | vs => .ret (.tup vs, p.2)
  | .fresh, [.bx cs] => newLoc (.b id) (.ret (.bx id 0, [(.b id, .box (cs.map (scCell false)))]))
  | .alias, [.bx cs] => newLoc (.b id) (.ret (.bx id 0, [(.b id, .box (cs.map (scCell al)))]))
  | .fresh, xs => resN fl xs
  | .alias, xs => resN al xs
  | _, _ => .fail
/-- Are all rows among the arguments flagged? -/
def rfC : Cell → Rd Bool
  | .sc _ => .ret true
  | .ro fr _ => .ret fr
  | .ref i => .ask (.r i) fun
    | .row _ fr _ => .ret fr
    | _ => .fail
def rfCs : List Cell → Rd Bool
  | [] => .ret true
  | c :: cs => (rfC c).bind fun a => (rfCs cs).bind fun b => .ret (a && b)
def rfA : AV → Rd Bool
  | .v (.cell c) => rfC c
  | .v (.agg cs) => rfCs cs
  | .vw i _ _ => .ask (.r i) fun
    | .row _ fr _ => .ret fr
    | _ => .fail
  | .bx _ _ => .ret true
  | _ => .fail
def rfs : List Operand → Rd Bool
  | [] => .ret true
  | x :: l => (opv x).bind fun v => (rfA v).bind fun a => (rfs l).bind fun b => .ret (a && b)
def alR (m : Md) (args : List Operand) : Rd Bool := match m with
  | .alias => rfs args
  | _ => .ret true
def outsW (fl : Bool) : List Nat → List (List SC) → Rd (List (Loc × Ct))
  | [], [] => .ret []
  | [b], [cs] => .ret [(.b b, .box (cs.map (scCell fl)))]
  | _, _ => .fail
/-- Of a box that is lent: are all of its rows flagged; is one of them one's own? -/
def bxCs : List Cell → Rd (Bool × Bool)
  | [] => .ret (true, false)
  | .sc _ :: cs => bxCs cs
  | .ro fr _ :: cs => (bxCs cs).bind fun p => .ret (fr && p.1, p.2)
  | .ref i :: cs => .ask (.r i) fun
    | .row own fr _ => (bxCs cs).bind fun p => .ret (fr && p.1, own || p.2)
    | _ => .fail
def bxR : List Nat → Rd (Bool × Bool)
  | [] => .ret (true, false)
  | [b] => .ask (.b b) fun
    | .box cs => bxCs cs
    | _ => .fail
  | _ => .fail
def freezeW : List Nat → Rd (List (Loc × Ct))
  | [] => .ret []
  | i :: l => .ask (.r i) fun
    | .row _ fr d => (freezeW l).bind fun r => .ret ((.r i, .row false fr d.shal) :: r)
    | _ => .fail
def nodupB : List Nat → Bool
  | [] => true
  | n :: l => !(l.any (Nat.beq n)) && nodupB l
def hasBx : List DA → Bool
  | [.bx _] => true
  | _ => false
def hasAny : List RF → Bool
  | [] => false
  | .any :: _ => true
  | _ :: os => hasAny os
def isAlias : Md → Bool
  | .alias => true
  | .fresh => false
  | .mix os => hasAny os
  | .take => false
  | .write => false
def isGive : Md → Bool
  | .take => true
  | .write => true
  | _ => false
/-- Rows that are handed over: their numbers; are all of them new? -/
def giveC : Cell → Rd (List Nat × Bool)
  | .sc _ => .ret ([], true)
  | .ref i => .ask (.r i) fun
    | .row true fr _ => .ret ([i], fr)
    | _ => .fail
  | _ => .fail
def giveCs : List Cell → Rd (List Nat × Bool)
  | [] => .ret ([], true)
  | c :: cs => (giveC c).bind fun p => (giveCs cs).bind fun q => .ret (p.1 ++ q.1, p.2 && q.2)
def giveA : AV → Rd (List Nat × Bool)
  | .v (.cell c) => giveC c
  | .v (.agg cs) => giveCs cs
  | _ => .fail
def givesR : List Operand → Rd (List Nat × Bool)
  | [] => .ret ([], true)
  | x :: l => (opv x).bind fun v => (giveA v).bind fun p => (givesR l).bind fun q => .ret (p.1 ++ q.1, p.2 && q.2)
def killW (is : List Nat) : List (Loc × Ct) := is.map fun i => (.r i, .dead)
def writeW (fr : Bool) : List Nat → List SC → Rd (List (Loc × Ct))
  | [], [] => .ret []
  | i :: is, .row d :: ds => .ask (.r i) fun
    | .row true _ d0 => .test (RK.eqb d.kind d0.kind && Nat.beq d.len d0.len) ((writeW fr is ds).bind fun r => .ret ((.r i, .row true fr d) :: r))
    | _ => .fail
  | _, _ => .fail
def allSc : List DA → Bool
  | [] => true
  | .c (.sc _) :: l => allSc l
  | _ => false
def giveR (id : Nat) (dst : Option Tmp) (sp : Sp) (args : List Operand) : Rd (List (Loc × Ct)) :=
  (givesR args).bind fun p => .test (nodupB p.1) (match sp.mode, sp.res, sp.outs with
    | .take, [.c (.row d)], [] => newLoc (.r id) (.ret (killW p.1 ++ ((.r id, .row true p.2 d) :: wr dst (.v (.cell (.ref id))))))
    | .write, res, [ds] => (writeW p.2 p.1 ds).bind fun ws => (resN true res).bind fun r => .test (allSc res) (.ret (killW p.1 ++ (ws ++ (r.2 ++ wr dst r.1))))
    | _, _, _ => .fail)
def SC.shal : SC → SC
  | .row d => .row d.shal
  | x => x
def DA.shal : DA → DA
  | .c x => .c x.shal
  | .agg xs => .agg (xs.map SC.shal)
  | .bx xs => .bx xs
/-- Rows that are owned in depth are lent as such, or to be read. -/
def pickA (cx : Cx) (f : FuncId) (ds : List DA) : List DA := match cx.Φ f ds with
  | some _ => ds
  | none => ds.map DA.shal
def knows (cx : Cx) (f : FuncId) (ds : List DA) : Bool := match cx.Φ f ds with
  | some _ => true
  | none => false
def callR (cx : Cx) (id : Nat) (dst : Option Tmp) (f : FuncId) (args : List Operand) : Rd (List (Loc × Ct)) :=
  (argsR args).bind fun p => match cx.Φ f (pickA cx f p.1) with
  | none => .fail
  | some sp => .test sp.pre (match isGive sp.mode with
    | true => .test (knows cx f p.1) (giveR id dst sp args)
    | false => (bxR p.2.2).bind fun fl => (alR sp.mode args).bind fun af => (match isAlias sp.mode || hasBx sp.res || fl.2 with
      | true => freezeW p.2.1
      | false => .ret []).bind fun fz => ((outsW fl.1 p.2.2 sp.outs).bind fun os => (resR fl.1 (af && fl.1) sp.mode id sp.res).bind fun r => .ret (fz ++ (os ++ (r.2 ++ wr dst r.1)))))
def Row.dq : Row → Option (List (List Int × ByteArray))
  | .deqs es => some es
  | _ => none
/-- Is a row new, behind an append? -/
def appFr (d : Row) (a b : Bool) : Bool := match d with
  | .eqs _ => a && b
  | _ => a
def builtinR (cx : Cx) (id : Nat) (dst : Option Tmp) (b : Builtin) (ts : List TypeId) (args : List Operand) : Rd (List (Loc × Ct)) :=
  match b, ts, args with
  | .len, [t], [x] => (cx.tio t).bind fun ti => match ti.k with
    | .str => (scal x).bind fun
      | .string s => .ret (wr dst (.v (.cell (.sc (.int .i64 s.size)))))
      | _ => .fail
    | .slice _ => (opv x).bind fun v => (rowR v).bind fun p => .ret (wr dst (.v (.cell (.sc (.int .i64 p.1.len)))))
    | _ => .fail
  | .min, [_, _], [x, y] => (scal x).bind fun a => (scal y).bind fun b => match a, b with
    | .int k m, .int _ n => .ret (wr dst (.v (.cell (.sc (.int k (if n < m then n else m))))))
    | _, _ => .fail
  | .append, [t, t'], [x, y] => .test (Nat.beq t t') ((rkOfElem cx t).bind fun ek => (opv x).bind fun
    | .v (.cell (.ref i)) => .ask (.r i) fun
      | .row true fr d => match Row.dq d with
        | some es => .test (RK.eqb ek.2 .eqs) ((opv y).bind fun
          | .v (.cell (.ref j)) => .ask (.r j) fun
            | .row true fr2 (.deqs vs) => .test (!Nat.beq i j) (.test (decide (es.length + vs.length < two40)) (newLoc (.r id) (.ret ((.r i, .dead) :: (.r j, .dead) :: (.r id, .row true (fr && fr2) (.deqs (es ++ vs))) :: wr dst (.v (.cell (.ref id)))))))
            | _ => .fail
          | _ => .fail)
        | none => .test (RK.eqb d.kind ek.2) ((opv y).bind fun yv => (rowR yv).bind fun p => match d.app p.1 with
          | some d' => .test (decide (d.len + p.1.len < two40)) (newLoc (.r id) (.ret ((.r i, .dead) :: (.r id, .row true (appFr d fr p.2) d') :: wr dst (.v (.cell (.ref id))))))
          | none => .fail)
      | _ => .fail
    | _ => .fail)
  | _, _, _ => .fail
def replR (k : RK) (n : Nat) : Row := match k with
  | .ints k => .ints k (List.replicate n 0)
  | .strs => .strs (List.replicate n ⟨#[]⟩)
  | .eqs => .eqs (List.replicate n eqD)
  | .deqs => .deqs (List.replicate n eqD)
  | .arr k _ => .arr k (List.replicate n 0)
def convR (a b : TK) (x : AV) : Rd AV :=
  match a, b, x with
  | .int _, .int k, .v (.cell (.sc (.int _ n))) => .ret (.v (.cell (.sc (.int k (k.wrap n)))))
  | .str, .str, .v (.cell (.sc (.string s))) => .ret (.v (.cell (.sc (.string s))))
  | .slice _, .str, x => (rowR x).bind fun p => match p.1 with
    | .ints .u8 xs => .ret (.v (.cell (.sc (.string (strOf xs)))))
    | _ => .fail
  | _, _, _ => .fail
/-- A part of a row, to be put into a box: the row is only read from then on. -/
def viewR : AV → AV → Rd (AV × List (Loc × Ct))
  | .vw i lo hi, .bx _ _ => .ask (.r i) fun
    | .row _ fr d => .test (!d.deep) (.ret (.v (.cell (.ro fr (d.sub lo hi))), [(.r i, .row false fr d)]))
    | _ => .fail
  | v, _ => .ret (v, [])
/-- What is stored: a nil slice is a row of nobody's. -/
def opvN (cx : Cx) (t : TypeId) : Operand → Rd AV
  | .const (.slice none 0 0) => (rkOfElem cx t).bind fun ek => .ret (.v (.cell (.ro true (Row.nil ek.2))))
  | x => opv x
def zcInts (k : IntKind) : Nat → List ZC → Bool
  | 0, [] => true
  | n + 1, .int l :: zs => IntKind.eqb k l && zcInts k n zs
  | _, _ => false
def isSome' : Option TypeId → TypeId → Bool
  | some t, t' => Nat.beq t t'
  | none, _ => false
/-- Places of one cell each. -/
def ones : Nat → Nat → List (Nat × Nat)
  | 0, _ => []
  | n + 1, i => (i, 1) :: ones n (i + 1)
def glook : List (Nat × IntKind × List Int) → Nat → Rd (IntKind × List Int)
  | [], _ => .fail
  | (m, p) :: l, g => match Nat.beq m g with
    | true => .ret p
    | false => glook l g
/-- '[]byte(s)'. -/
def strBy : TK → TK → Option TypeId
  | .str, .slice e => some e
  | _, _ => none
def bytesL (s : ByteArray) : List Int := s.data.toList.map fun b => (b.toNat : Int)
/-- A row that is made empty, with room. -/
def capOf : Operand → Operand → Option Nat
  | .const (.int .i64 (.ofNat 0)), .const (.int .i64 (.ofNat (m + 1))) => some (m + 1)
  | _, _ => none
/-- An operation: what it writes. -/
def eff (cx : Cx) (id : Nat) (o : Oper) : Rd (List (Loc × Ct)) :=
  match o.op with
  | .move x | .assign x => match x with
    | .const (.slice none 0 0) => (rkOfElem cx o.type).bind fun ek => newLoc (.r id) (.ret ((.r id, .row true true (Row.nil (upK cx.dp ek.2))) :: wr o.dst (.v (.cell (.ref id)))))
    | x => (opv x).bind fun v => .ret (wr o.dst v)
  | .pick c a b => (scal c).bind fun
    | .bool t => .br t ((opv a).bind fun v => .ret (wr o.dst v)) ((opv b).bind fun v => .ret (wr o.dst v))
    | _ => .fail
  | .alloc t => (cx.tio t).bind fun ti => match ti.k with
    | .arr k _ n => .test ((Nat.beq n ti.size && Nat.ble n 1000000) && (zcInts k n ti.zc && isSome' (ekOf cx.ek (.arr k n)) t)) (newLoc (.r id) (.ret ((.r id, .row true true (.arr k (List.replicate n 0))) :: wr o.dst (.ap id))))
    | _ => (zeroR cx.dp ti.zc id).bind fun p => newLoc (.b id) (.ret (p.2 ++ ((.b id, .box p.1) :: wr o.dst (.bx id 0))))
  | .box _ x => (opv x).bind fun v => (cellsOf v).bind fun cs => newLoc (.b id) (.ret ((.b id, .box cs) :: wr o.dst (.bx id 0)))
  | .build t ps => (cx.tio t).bind fun ti => match ti.k with
    | .struct fs => (zeroR cx.dp ti.zc id).bind fun p => (fillR fs ps.toList p.1).bind fun cs => .ret (p.2 ++ wr o.dst (.v (.agg cs)))
    | .arr _ e n => (cx.tio e).bind fun te => .test (Nat.beq te.size 1) ((zeroR cx.dp ti.zc id).bind fun p => (fillR (ones n 0) ps.toList p.1).bind fun cs => .ret (p.2 ++ wr o.dst (.v (.agg cs))))
    | _ => .fail
  | .buildSlice t n ps => (rkOfElem cx t).bind fun ek => .test ((Nat.beq ps.toList.length n && idxOk 0 ps.toList) && decide (n ≤ 4000000)) ((eltsR (upK cx.dp ek.2) (ps.toList.map (·.2))).bind fun q =>
      newLoc (.r id) (.ret (q.2.2 ++ ((.r id, .row true q.2.1 q.1) :: wr o.dst (.v (.cell (.ref id)))))))
  | .load t a => (cx.tio t).bind fun ti => (opv a).bind fun p => match p with
    | .gp g i => (glook cx.ek.gl g).bind fun q => .test (!isSt ti.k) <| .test (decide (i < q.2.length)) (.ret (wr o.dst (.v (.cell (.sc (.int q.1 (q.2.getD i 0)))))))
    | p => (loadR ti (isSt ti.k) p).bind fun v => .ret (wr o.dst v)
  | .store t a x => (cx.tio t).bind fun ti => (opv a).bind fun p => (opvN cx t x).bind fun v => (viewR v p).bind fun q => (cellsOf q.1).bind fun us => (storeR ti p us).bind fun ws => .ret (q.2 ++ (ws ++ wr o.dst (.v (.cell (.sc undef)))))
  | .nilCheck x => (opv x).bind fun
    | .bx b off => .ret (wr o.dst (.bx b off))
    | .pe fr cs => .ret (wr o.dst (.pe fr cs))
    | .pr i e off => .ret (wr o.dst (.pr i e off))
    | _ => .fail
  | .binOp op t x y _ => (scal x).bind fun a => (scal y).bind fun b => match boolR op a b with
    | some m => (cx.tio t).bind fun ti => .test (isBo ti.k) (m.bind fun v => .ret (wr o.dst (.v (.cell (.sc v)))))
    | none => (binR op a b).bind fun v => .ret (wr o.dst (.v (.cell (.sc v))))
  | .unOp op _ x => (scal x).bind fun a => (unR op a).bind fun v => .ret (wr o.dst (.v (.cell (.sc v))))
  | .convert a b x => (cx.tio a).bind fun ta => (cx.tio b).bind fun tb => match strBy ta.k tb.k with
    | some e => (scal x).bind fun
      | .string s => (cx.tio e).bind fun te => match te.k with
        | .int .u8 => .test (isSome' (ekOf cx.ek (.ints .u8)) e) <| .test (decide (s.size < two40)) (newLoc (.r id) (.ret ((.r id, .row true true (.ints .u8 (bytesL s))) :: wr o.dst (.v (.cell (.ref id))))))
        | _ => .fail
      | _ => .fail
    | none => (opv x).bind fun v => (match ta.k with
      | .slice e => (cx.tio e).bind fun te => match te.k with
        | .int .u8 => convR ta.k tb.k v
        | _ => .fail
      | _ => convR ta.k tb.k v).bind fun u => .ret (wr o.dst u)
  | .makeSlice t l c => (rkOfElem cx t).bind fun ek => match capOf l c with
    | some m => .test (Nat.blt m two40) (newLoc (.r id) (.ret ((.r id, .row true true (Row.nil ek.2)) :: wr o.dst (.v (.cell (.ref id))))))
    | none => (scal l).bind fun a => (scal c).bind fun b => match a, b with
    | .int .i64 n, .int .i64 m => .test (decide (0 ≤ n)) (.test (decide (n = m)) (.test (decide (n < (two40 : Int))) (newLoc (.r id) (.ret ((.r id, .row true true (replR (upK cx.dp ek.2) n.toNat)) :: wr o.dst (.v (.cell (.ref id))))))))
    | _, _ => .fail
  | .slice t x lo hi none => (cx.tio t).bind fun ti => match ti.k with
    | .str => (scal x).bind fun
      | .string s => (sliceS s lo hi).bind fun u => .ret (wr o.dst u)
      | _ => .fail
    | .slice e => (cx.tio e).bind fun te => (opv x).bind fun v => (sliceR te.size v lo hi).bind fun u => .ret (wr o.dst u)
    | _ => .fail
  | .fieldAddr t x f => (cx.tio t).bind fun ti => (opv x).bind fun v => (fieldR ti f v).bind fun u => .ret (wr o.dst u)
  | .indexAddr t x i => (cx.tio t).bind fun ti => match ti.k with
    | .slice e => (cx.tio e).bind fun te => (opv x).bind fun v => (opv i).bind fun iv => (asInt iv).bind fun n => (indexAddrR te.size v n).bind fun u => .ret (wr o.dst u)
    | .arr _ e m => (cx.tio e).bind fun te => .test (Nat.beq te.size 1) ((opv x).bind fun v => (opv i).bind fun iv => (asInt iv).bind fun n => match v with
      | .ap r => .ask (.r r) fun
        | .row _ _ d => .test (Nat.beq d.wd 1) <| .test (decide (m ≤ d.len)) (inR n m (.ret (wr o.dst (.pr r n.toNat 0))))
        | _ => .fail
      | .gp g 0 => inR n m (.ret (wr o.dst (.gp g n.toNat)))
      | _ => .fail)
    | _ => .fail
  | .index t x i => (cx.tio t).bind fun ti => match ti.k with
    | .str => (scal x).bind fun
      | .string s => (opv i).bind fun iv => (asInt iv).bind fun n => inR n s.size (.ret (wr o.dst (.v (.cell (.sc (.int .u8 (bt s n)))))))
      | _ => .fail
    | .arr k e m => (cx.tio e).bind fun te => .test (Nat.beq te.size 1 && !isSt te.k) ((opv x).bind fun v => match v with
      | .v (.agg cs) => (cellInts k cs).bind fun ys => (opv i).bind fun iv => (asInt iv).bind fun n => .test (Nat.ble m ys.length) (inR n m (.ret (wr o.dst (.v (.cell (.sc (.int k (ys.getD n.toNat 0))))))))
      | _ => .fail)
    | _ => .fail
  | .extract x n => (opv x).bind fun
    | .tup vs => match vs[n]? with
      | some u => .ret (wr o.dst (.v u))
      | none => .fail
    | _ => .fail
  | .call c => match c.callee with
    | .builtin b => builtinR cx id o.dst b c.argTypes.toList c.args.toList
    | .value (.func f) => callR cx id o.dst f c.args.toList
    | _ => .fail
  | _ => .fail
def dstOk (nt : Nat) : Option Tmp → Bool
  | some d => Nat.blt d nt
  | none => true
/-- With its guard. -/
def effG (cx : Cx) (nt : Nat) (ops : Array Oper) (id : Nat) (o : Oper) : Rd (List (Loc × Ct)) :=
  match dstOk nt o.dst with
  | false => .fail
  | true => match o.guard with
    | none => eff cx id o
    | some (j, want) => match ops[j]? with
      | some oj => match oj.dst with
        | some d => .ask (.t d) fun
          | .av (.v (.cell (.sc (.bool b)))) => .br (b == want) (eff cx id o) (.ret (wr o.dst (.v (.cell (.sc undef)))))
          | .av (.v (.cell (.sc (.tuple _)))) => .ret (wr o.dst (.v (.cell (.sc undef))))
          | _ => .fail
        | none => .fail
      | none => .fail
end Vx
/- The executor over code, in continuation form. Plain definitions. -/
namespace Vx
open Go

def appK {R : Type} : List (Loc × Ct) → St → (St → Option R) → Option R
  | [], σ, k => k σ
  | w :: ws, σ, k => appK ws (w :: σ) k
/-- Is the destination of o a guard of an operation behind it? -/
def guardsOf (ops : Array Oper) (d : Tmp) : List Oper → Bool
  | [] => false
  | o :: l => match o.guard with
    | some (j, _) => match ops[j]? with
      | some oj => match oj.dst with
        | some e => Nat.beq d e || guardsOf ops d l
        | none => guardsOf ops d l
      | none => guardsOf ops d l
    | none => guardsOf ops d l
/-- A guard that is a Bool: both cases. -/
def splitK {R : Type} (ops : Array Oper) (dst : Option Tmp) (l : List Oper) (σ : St) (k : St → Option R) : Option R :=
  match dst with
  | none => k σ
  | some d => match guardsOf ops d l with
    | false => k σ
    | true => lookupK σ (.t d) fun
      | .av (.v (.cell (.sc (.bool b)))) => match b with
        | true => k ((.t d, .av (.v (.cell (.sc (.bool true))))) :: σ)
        | false => k ((.t d, .av (.v (.cell (.sc (.bool false))))) :: σ)
      | _ => k σ
/-- Operations one behind the other; what each read and wrote. -/
def opsK {R : Type} (cx : Cx) (nt : Nat) (ops : Array Oper) (id : Nat) : List Oper → Nat → St → List (List Loc × List Loc) → (St → List (List Loc × List Loc) → Option R) → Option R
  | [], _, σ, log, k => k σ log
  | o :: l, p, σ, log, k => (effG cx nt ops (id + 16 * p) o).runK σ [] fun ws rs => appK ws σ fun σ' => splitK ops o.dst l σ' fun σ'' =>
      opsK cx nt ops id l (p + 1) σ'' ((rs, ws.map (·.1)) :: log) k
def memL (l : Loc) : List Loc → Bool
  | [] => false
  | m :: ms => l.beq m || memL l ms
def disj (a b : List Loc) : Bool := a.all fun l => !memL l b
def hasB (m j : Nat) : Bool := Nat.beq (Nat.land (Nat.shiftRight m j) 1) 1
def ancOf (acc : List Nat) : List Edge → Nat → Nat
  | [], m => m
  | e :: l, m => match Region.binds .any e with
    | true => ancOf acc l (Nat.lor m (Nat.lor (Nat.shiftLeft 1 e.on) (acc.getD e.on 0)))
    | false => ancOf acc l m
/-- What stands before each operation, through others too: as bits. -/
def ancs : List Oper → List Nat → List Nat
  | [], acc => acc
  | o :: l, acc => ancs l (acc ++ [ancOf acc o.after.toList 0])
def indepRow (anc : Nat) (x : List Loc × List Loc) : List (List Loc × List Loc) → Nat → Bool
  | [], _ => true
  | y :: l, j => (hasB anc j || (disj y.2 x.1 && disj y.2 x.2 && disj y.1 x.2)) && indepRow anc x l (j + 1)
/-- Operations that do not wait for each other do not meet: log in the text's order. -/
def indepB (an : List Nat) : List (List Loc × List Loc) → List (List Loc × List Loc) → Nat → Bool
  | _, [], _ => true
  | before, x :: l, j => indepRow (an.getD j 0) x before 0 && indepB an (before ++ [x]) l (j + 1)
def edgesOk : List Oper → Nat → Bool
  | [], _ => true
  | o :: l, i => (o.after.toList.all fun e => match Region.binds .any e with
      | true => Nat.blt e.on i
      | false => true) && edgesOk l (i + 1)
def isMem : Loc × Ct → Bool
  | (.t _, _) => false
  | _ => true
/-- Only the slots that live. -/
def pruneK {R : Type} (σ0 : St) : List Nat → St → (St → Option R) → Option R
  | [], acc, k => k acc
  | t :: ts, acc, k => lookupK σ0 (.t t) fun
      | .av x => pruneK σ0 ts ((.t t, .av x) :: acc) k
      | _ => pruneK σ0 ts acc k
def memK {R : Type} : St → St → (St → Option R) → Option R
  | [], acc, k => appK acc [] k
  | w :: σ, acc, k => match isMem w with
    | true => memK σ (w :: acc) k
    | false => memK σ acc k
structure FnI where
  f : FuncId
  body : Code
  nt : Nat
  res : List ResultVar
  keep : List Nat
  live : Nat → List Nat
  nb : Nat
  mode : Md
def regionK {R : Type} (cx : Cx) (F : FnI) (id : Nat) (ops : Array Oper) (draw : Bool) (σ : St) (k : St → Option R) : Option R :=
  opsK cx F.nt ops (id * 1000 + 1000) ops.toList 0 σ [] fun σ' log =>
    match draw with
    | false => memK σ' [] fun m => pruneK σ' F.keep m k
    | true => match edgesOk ops.toList 0 && indepB (ancs ops.toList []) [] log.reverse 0 with
      | true => memK σ' [] fun m => pruneK σ' F.keep m k
      | false => none

/-! at a loop's head -/
def posOf (n : Nat) : List Nat → Nat → Option Nat
  | [], _ => none
  | m :: l, i => match Nat.beq n m with
    | true => some i
    | false => posOf n l (i + 1)
def insN (n : Nat) (l : List Nat) : List Nat := match l.any (Nat.beq n) with
  | true => l
  | false => l ++ [n]
def refsC (σ : St) : List Cell → List Nat → List Nat
  | [], l => l
  | .ref i :: cs, l => match get σ (.r i) with
    | .row true _ _ => refsC σ cs (insN i l)
    | _ => refsC σ cs l
  | _ :: cs, l => refsC σ cs l
def refsA (σ : St) : AV → List Nat × List Nat → List Nat × List Nat
  | .v (.cell c), (r, b) => (refsC σ [c] r, b)
  | .v (.agg cs), (r, b) => (refsC σ cs r, b)
  | .bx i _, (r, b) => match get σ (.b i) with
    | .box cs => (refsC σ cs r, insN i b)
    | _ => (r, b)
  | .ap i, (r, b) => (refsC σ [.ref i] r, b)
  | _, p => p
def refsT (σ : St) : List Nat → List Nat × List Nat → List Nat × List Nat
  | [], p => p
  | t :: ts, p => match get σ (.t t) with
    | .av x => refsT σ ts (refsA σ x p)
    | _ => refsT σ ts p
/-- A cell under new numbers; a frozen row as its data. -/
def renC (σ : St) (rm : List Nat) : Cell → Option Cell
  | .sc v => some (.sc v)
  | .ro fr d => some (.ro fr d)
  | .ref i => match get σ (.r i) with
    | .row true _ _ => match posOf i rm 0 with
      | some j => some (.ref j)
      | none => none
    | .row false fr d => some (.ro fr d)
    | _ => none
def renCs (σ : St) (rm : List Nat) : List Cell → Option (List Cell)
  | [] => some []
  | c :: cs => match renC σ rm c with
    | some c' => match renCs σ rm cs with
      | some cs' => some (c' :: cs')
      | none => none
    | none => none
def renA (σ : St) (rm bm : List Nat) : AV → Option AV
  | .v (.cell c) => match renC σ rm c with
    | some c' => some (.v (.cell c'))
    | none => none
  | .v (.agg cs) => match renCs σ rm cs with
    | some c' => some (.v (.agg c'))
    | none => none
  | .bx i off => match posOf i bm 0 with
    | some j => some (.bx j off)
    | none => none
  | .ap i => match get σ (.r i) with
    | .row true _ _ => match posOf i rm 0 with
      | some j => some (.ap j)
      | none => none
    | _ => none
  | _ => none
def renT (σ : St) (rm bm : List Nat) : List Nat → St → Option St
  | [], acc => some acc
  | t :: ts, acc => match get σ (.t t) with
    | .av x => match renA σ rm bm x with
      | some x' => renT σ rm bm ts ((.t t, .av x') :: acc)
      | none => renT σ rm bm ts acc
    | _ => renT σ rm bm ts acc
def renB (σ : St) (rm : List Nat) : List Nat → Nat → St → Option St
  | [], _, acc => some acc
  | b :: bs, j, acc => match get σ (.b b) with
    | .box cs => match renCs σ rm cs with
      | some cs' => renB σ rm bs (j + 1) ((.b j, .box cs') :: acc)
      | none => none
    | _ => none
def renR (σ : St) : List Nat → Nat → St → Option St
  | [], _, acc => some acc
  | i :: is, j, acc => match get σ (.r i) with
    | .row true fr d => renR σ is (j + 1) ((.r j, .row true fr d) :: acc)
    | _ => none
def preB : Nat → Nat → List Nat → Bool
  | 0, _, _ => true
  | n + 1, i, b :: bs => Nat.beq b i && preB n (i + 1) bs
  | _ + 1, _, [] => false
def normWith (σ : St) (live : List Nat) (nb : Nat) (p : List Nat × List Nat) : Option St :=
  match nodupB p.1 && (nodupB p.2 && preB nb 0 p.2) with
  | true => match renR σ p.1 0 [] with
    | some m => match renB σ p.1 p.2 0 m with
      | some m' => renT σ p.1 p.2 live m'
      | none => none
    | none => none
  | false => none
def upto : Nat → Nat → List Nat
  | 0, _ => []
  | n + 1, i => i :: upto n (i + 1)
def boxRefs (σ : St) : List Nat → List Nat → List Nat
  | [], l => l
  | b :: bs, l => match get σ (.b b) with
    | .box cs => boxRefs σ bs (refsC σ cs l)
    | _ => boxRefs σ bs l
/-- Rows that are only read from a loop's head on: their slots stand in 'live' once more, with 100000 added. -/
def frzL : List Nat → St → St
  | [], σ => σ
  | t :: ts, σ => match Nat.ble 100000 t with
    | false => frzL ts σ
    | true => match get σ (.t (t - 100000)) with
      | .av (.v (.cell (.ref i))) => match get σ (.r i) with
        | .row true fr d => frzL ts ((.r i, .row false fr d.shal) :: σ)
        | _ => frzL ts σ
      | _ => frzL ts σ
def norm0 (live : List Nat) (nb : Nat) (σ : St) : Option St := normWith σ live nb (refsT σ live (boxRefs σ (upto nb 0) [], upto nb 0))
def norm (live : List Nat) (nb : Nat) (σ : St) : Option St := norm0 live nb (frzL live σ)

inductive Ex where
  | exit (id : Nat) | ret
def iter {R : Type} (body : St → (St → Option R) → Option R) (live : List Nat) (nb : Nat) : Nat → St → Option R
  | 0, _ => none
  | m + 1, σ => body σ fun σ' => match norm live nb σ' with
    | some τ => iter body live nb m τ
    | none => none
/-- A loop's key: its first region. -/
def keyOf : Code → Nat
  | .region id _ _ => id
  | .seq a _ => keyOf a
  | .block _ a => keyOf a
  | .loop a => keyOf a
  | .cond _ a _ => keyOf a
  | _ => 0
def condK {R : Type} (c : Operand) (σ : St) (t e : Unit → Option R) : Option R :=
  match c with
  | .tmp n => lookupK σ (.t n) fun
    | .av (.v (.cell (.sc (.bool b)))) => match b with
      | true => t ()
      | false => e ()
    | _ => none
  | .const (.bool b) => match b with
    | true => t ()
    | false => e ()
  | _ => none
def cxK {R : Type} (cx : Cx) (F : FnI) (n : Nat) : Code → St → (St → Option R) → (Ex → St → Option R) → Option R
  | .skip, σ, kn, _ => kn σ
  | .region id ops draw, σ, kn, _ => regionK cx F id ops draw σ kn
  | .seq a b, σ, kn, kx => cxK cx F n a σ (fun σ' => cxK cx F n b σ' kn kx) kx
  | .cond c a b, σ, kn, kx => condK c σ (fun _ => cxK cx F n a σ kn kx) (fun _ => cxK cx F n b σ kn kx)
  | .block id c, σ, kn, kx => cxK cx F n c σ kn fun e σ' => match e with
    | .exit i => match Nat.beq i id with
      | true => kn σ'
      | false => kx (.exit i) σ'
    | .ret => kx .ret σ'
  | .loop c, σ, _, kx => match norm (F.live (keyOf c)) F.nb σ with
    | some τ => iter (fun σ' k => cxK cx F n c σ' k kx) (F.live (keyOf c)) F.nb n τ
    | none => none
  | .exit id, σ, _, kx => kx (.exit id) σ
  | .ret, σ, _, kx => kx .ret σ
  | _, _, _, _ => none

/-! results -/
def outC (m : Md) (c : Cell) : Rd SC :=
  match m, c with
  | _, .sc v => .ret (.sc v)
  | .mix _, .ro true d => .ret (.row d)
  | .fresh, .ro true d => .ret (.row d)
  | .alias, .ro _ d => .ret (.row d)
  | .fresh, .ref i => .ask (.r i) fun
    | .row _ true d => .ret (.row d)
    | _ => .fail
  | .alias, .ref i => .ask (.r i) fun
    | .row _ _ d => .ret (.row d)
    | _ => .fail
  | _, _ => .fail
def outCs (m : Md) : List Cell → Rd (List SC)
  | [] => .ret []
  | c :: cs => (outC m c).bind fun x => (outCs m cs).bind fun xs => .ret (x :: xs)
def outV1 (m : Md) : V1 → Rd DA
  | .cell c => (outC m c).bind fun x => .ret (.c x)
  | .agg cs => (outCs m cs).bind fun x => .ret (.agg x)
def outV1s (m : Md) : List V1 → Rd (List DA)
  | [] => .ret []
  | x :: l => (outV1 m x).bind fun a => (outV1s m l).bind fun r => .ret (a :: r)
/-- A result variable's value. -/
def resVar (cx : Cx) : ResultVar → Rd AV
  | .tmp t => avOf t
  | .cell a ty => (cx.tio ty).bind fun ti => (avOf a).bind fun p => loadR ti (isSt ti.k) p
def resVars (cx : Cx) : List ResultVar → Rd (List V1)
  | [] => .ret []
  | x :: l => (resVar cx x).bind fun
    | .v u => (resVars cx l).bind fun r => .ret (u :: r)
    | _ => .fail
def boxMd : Md → Md
  | .mix os => .mix os
  | _ => .fresh
def boxCs (m : Md) (b : Nat) : Rd (List SC) := .ask (.b b) fun
  | .box cs => outCs m cs
  | _ => .fail
def outBxs (m : Md) : Nat → Nat → Rd (List (List SC))
  | 0, _ => .ret []
  | n + 1, b => (boxCs (boxMd m) b).bind fun x => (outBxs m n (b + 1)).bind fun r => .ret (x :: r)
/-- Cells of the results, by flags: what is given away, what is read. -/
structure Mx where
  os : List RF
  owns : List Nat
  reads : List Nat
def outMs : List Cell → List RF → Rd (List SC × Mx)
  | [], os => .ret ([], ⟨os, [], []⟩)
  | .sc v :: cs, os => (outMs cs os).bind fun p => .ret (.sc v :: p.1, p.2)
  | .ro true d :: cs, .new :: os => (outMs cs os).bind fun p => .ret (.row d :: p.1, p.2)
  | .ro _ d :: cs, .any :: os => (outMs cs os).bind fun p => .ret (.row d :: p.1, p.2)
  | .ref i :: cs, .new :: os => .ask (.r i) fun
    | .row _ true d => (outMs cs os).bind fun p => .ret (.row d :: p.1, ⟨p.2.os, p.2.owns, i :: p.2.reads⟩)
    | _ => .fail
  | .ref i :: cs, .any :: os => .ask (.r i) fun
    | .row _ _ d => (outMs cs os).bind fun p => .ret (.row d :: p.1, ⟨p.2.os, p.2.owns, i :: p.2.reads⟩)
    | _ => .fail
  | .ref i :: cs, .own :: os => .ask (.r i) fun
    | .row true true d => (outMs cs os).bind fun p => .ret (.row d :: p.1, ⟨p.2.os, i :: p.2.owns, p.2.reads⟩)
    | _ => .fail
  | _ :: _, _ => .fail
def outMV : List V1 → List RF → Rd (List DA × Mx)
  | [], os => .ret ([], ⟨os, [], []⟩)
  | .cell c :: l, os => (outMs [c] os).bind fun p => match p.1 with
    | [x] => (outMV l p.2.os).bind fun q => .ret (.c x :: q.1, ⟨q.2.os, p.2.owns ++ q.2.owns, p.2.reads ++ q.2.reads⟩)
    | _ => .fail
  | .agg cs :: l, os => (outMs cs os).bind fun p => (outMV l p.2.os).bind fun q => .ret (.agg p.1 :: q.1, ⟨q.2.os, p.2.owns ++ q.2.owns, p.2.reads ++ q.2.reads⟩)
def resOf (cx : Cx) (m : Md) (nb : Nat) (rs : List ResultVar) : Rd (List DA) :=
  match m, rs with
  | .mix os, rs => (resVars cx rs).bind fun us => (outMV us os).bind fun p => .test (nodupB p.2.owns && p.2.reads.all fun i => !(p.2.owns.any (Nat.beq i))) (.ret p.1)
  | .fresh, rs => (resVars cx rs).bind fun us => outV1s .fresh us
  | .alias, [r] => (resVar cx r).bind fun
    | .v u => (outV1 .alias u).bind fun x => .ret [x]
    | .bx b 0 => .test (Nat.ble nb b) ((boxCs .alias b).bind fun x => .ret [.bx x])
    | _ => .fail
  | .alias, rs => (resVars cx rs).bind fun us => outV1s .alias us
  | _, _ => .fail
def finR (cx : Cx) (F : FnI) : Rd (List DA × List (List SC)) :=
  (resOf cx F.mode F.nb F.res).bind fun r => (outBxs F.mode F.nb 0).bind fun o => .ret (r, o)
def scCells (fr : Bool) : List SC → List Cell
  | [] => []
  | x :: l => scCell fr x :: scCells fr l
def argSt : List DA → Nat → Nat → St → St
  | [], _, _, σ => σ
  | .c x :: l, t, b, σ => argSt l (t + 1) b ((.t t, .av (.v (.cell (scCell false x)))) :: σ)
  | .agg xs :: l, t, b, σ => argSt l (t + 1) b ((.t t, .av (.v (.agg (scCells false xs)))) :: σ)
  | .bx xs :: l, t, b, σ => argSt l (t + 1) (b + 1) ((.t t, .av (.bx b 0)) :: (.b b, .box (scCells true xs)) :: σ)
def nBx : List DA → Nat
  | [] => 0
  | .bx _ :: l => nBx l + 1
  | _ :: l => nBx l
def finK (cx : Cx) (F : FnI) (σ : St) : Option (List DA × List (List SC)) := (finR cx F).runK σ [] fun x _ => some x
def finX (cx : Cx) (F : FnI) : Ex → St → Option (List DA × List (List SC))
  | .ret, σ => finK cx F σ
  | .exit _, _ => none
def runF (cx : Cx) (F : FnI) (n : Nat) (args : List DA) : Option (List DA × List (List SC)) :=
  match (Nat.beq (nBx args) F.nb && Nat.ble args.length F.nt) && !isGive F.mode with
  | true => cxK cx F n F.body (argSt args 0 0 []) (finK cx F) (finX cx F)
  | false => none
end Vx
/- What an abstract state says of slots and a world; how it is kept. -/
namespace Vx
open Go Go.RowKit

theorem get_cons (l m : Loc) (c : Ct) (σ : St) : get ((m, c) :: σ) l = if l = m then c else get σ l := by
  simp only [get]
  by_cases h : l = m
  · rw [if_pos h, Loc.beq_iff.2 h]
  · have hb : l.beq m = false := by
      cases hb : l.beq m
      · rfl
      · exact absurd (Loc.beq_iff.1 hb) h
    rw [if_neg h, hb]
theorem get_same (m : Loc) (c : Ct) (σ : St) : get ((m, c) :: σ) m = c := by rw [get_cons, if_pos rfl]
theorem get_other {l m : Loc} (h : l ≠ m) (c : Ct) (σ : St) : get ((m, c) :: σ) l = get σ l := by rw [get_cons, if_neg h]

inductive All2 {α β : Type} (R : α → β → Prop) : List α → List β → Prop where
  | nil : All2 R [] []
  | cons {a b as bs} (h : R a b) (t : All2 R as bs) : All2 R (a :: as) (b :: bs)
theorem All2.imp {α β : Type} {R S : α → β → Prop} {as : List α} {bs : List β} (h : All2 R as bs) (f : ∀ a b, R a b → S a b) : All2 S as bs := by
  induction h with
  | nil => exact .nil
  | cons h t ih => exact .cons (f _ _ h) ih
theorem All2.length {α β : Type} {R : α → β → Prop} {as : List α} {bs : List β} (h : All2 R as bs) : as.length = bs.length := by
  induction h with
  | nil => rfl
  | cons h t ih => simp [ih]
theorem All2.get {α β : Type} {R : α → β → Prop} {as : List α} {bs : List β} (h : All2 R as bs) : ∀ (j : Nat) b, bs[j]? = some b → ∃ a, as[j]? = some a ∧ R a b := by
  induction h with
  | nil => intro j b hb; simp at hb
  | cons h t ih =>
    intro j b hb
    cases j with
    | zero => simp at hb; subst hb; exact ⟨_, rfl, h⟩
    | succ j => simp at hb; obtain ⟨a, ha, hr⟩ := ih j b hb; exact ⟨a, by simpa using ha, hr⟩
theorem All2.of_get {α β : Type} {R : α → β → Prop} : ∀ {as : List α} {bs : List β}, as.length = bs.length → (∀ (j : Nat) a b, as[j]? = some a → bs[j]? = some b → R a b) → All2 R as bs
  | [], [], _, _ => .nil
  | [], _ :: _, h, _ => by simp at h
  | _ :: _, [], h, _ => by simp at h
  | a :: as, b :: bs, h, hr => .cons (hr 0 a b rfl rfl) (All2.of_get (by simpa using h) fun j x y hx hy => hr (j + 1) x y (by simpa using hx) (by simpa using hy))
theorem All2.append {α β : Type} {R : α → β → Prop} {as as' : List α} {bs bs' : List β} (h : All2 R as bs) (h' : All2 R as' bs') : All2 R (as ++ as') (bs ++ bs') := by
  induction h with
  | nil => exact h'
  | cons h t ih => exact .cons h ih
theorem All2.take {α β : Type} {R : α → β → Prop} {as : List α} {bs : List β} (h : All2 R as bs) (n : Nat) : All2 R (as.take n) (bs.take n) := by
  induction h generalizing n with
  | nil => simp; exact .nil
  | cons h t ih => cases n with
    | zero => simp; exact .nil
    | succ n => simp; exact .cons h (ih n)
theorem All2.drop {α β : Type} {R : α → β → Prop} {as : List α} {bs : List β} (h : All2 R as bs) (n : Nat) : All2 R (as.drop n) (bs.drop n) := by
  induction h generalizing n with
  | nil => simp; exact .nil
  | cons h t ih => cases n with
    | zero => simp; exact .cons h t
    | succ n => simp; exact ih n
theorem All2.map_right {α β γ : Type} {R : α → γ → Prop} {f : β → γ} {as : List α} {bs : List β} (h : All2 (fun a b => R a (f b)) as bs) : All2 R as (bs.map f) := by
  induction h with
  | nil => exact .nil
  | cons h t ih => exact .cons h ih

/-! ### Worlds -/
/-- Of what was there only blocks of X have turned. -/
structure Chg (X : Nat → Prop) (w w' : World) : Prop where
  os : w'.os = w.os
  tape : w'.tape = w.tape
  output : w'.output = w.output
  size : w.heap.size ≤ w'.heap.size
  block : ∀ j, j < w.heap.size → ¬ X j → w'.heap[j]? = w.heap[j]?
theorem Chg.refl (X : Nat → Prop) (w : World) : Chg X w w := ⟨rfl, rfl, rfl, Nat.le_refl _, fun _ _ _ => rfl⟩
theorem Chg.trans {X : Nat → Prop} {a b c : World} (h : Chg X a b) (k : Chg X b c) : Chg X a c :=
  ⟨k.os.trans h.os, k.tape.trans h.tape, k.output.trans h.output, Nat.le_trans h.size k.size, fun j hj hx => (k.block j (Nat.lt_of_lt_of_le hj h.size) hx).trans (h.block j hj hx)⟩
theorem Chg.mono {X Y : Nat → Prop} {w w' : World} (h : Chg X w w') (f : ∀ j, j < w.heap.size → X j → Y j) : Chg Y w w' :=
  ⟨h.os, h.tape, h.output, h.size, fun j hj hy => h.block j hj fun hx => hy (f j hj hx)⟩
theorem Chg.drew (X : Nat → Prop) (w : World) : Chg X w { w with drawn := w.drawn + 1 } := ⟨rfl, rfl, rfl, Nat.le_refl _, fun _ _ _ => rfl⟩
theorem Chg.alloc (X : Nat → Prop) (w : World) (o : Obj) : Chg X w (w.alloc o) := ⟨rfl, rfl, rfl, by simp, fun j hj _ => Below.heap_alloc w o j hj⟩
theorem Chg.grown {w w' : World} {row : Option Nat} (h : w.grownBy w' row) : Chg (fun j => row = some j) w w' :=
  ⟨h.os, h.tape, h.output, h.size, fun j hj hx => h.block j hj fun e => hx e.symm⟩
theorem Chg.cell {X : Nat → Prop} {w w' : World} (h : Chg X w w') {p : Addr} {v : Value} (hc : w.cell? p = some v) (hx : ¬ X p.block) : w'.cell? p = some v :=
  (World.cell?_of_block (h.block _ (World.block_lt_of_cell? w p hc) hx)).trans hc

def DRep (w : World) (Pj : Nat → Prop) (u : Value) : DC → Prop
  | .sc v => u = v
  | .ir xs => ∃ A cap, u = .slice A xs.length cap ∧ xs.length ≤ cap ∧ (0 < xs.length → ∃ ad, A = some ad ∧ Pj ad.block ∧ ∀ j, j < xs.length → w.cell? (ad.add j) = some (.int .i64 (xs.getD j 0)))
def RowRep (w : World) (Pj : Nat → Prop) (u : Value) (d : Row) : Prop :=
  ∃ A cap, u = .slice A d.len cap ∧ d.len ≤ cap ∧ (0 < d.len → ∃ ad, A = some ad ∧ Pj ad.block ∧ ∀ j c, d.flat[j]? = some c → ∃ x, w.cell? (ad.add j) = some x ∧ DRep w Pj x c)
/-- A row that is owned; the mark on it, if it may have one, touches no cell. -/
def ownsM (w : World) (m : Bool) (e : TypeId) (size : Nat) (v : Value) (n : Nat) (xs : List Value) : Prop :=
  xs.length = n * size ∧ ((v = .slice none 0 0 ∧ n = 0) ∨
    ∃ g cap cur fz, v = .slice (some ⟨g, 0, none⟩) n cap ∧ w.heap[g]? = some (.cells cur e fz) ∧ (fz = (0, 0) ∨ (m = true ∧ cur.size ≤ fz.1)) ∧ n ≤ cap ∧ cap ≤ maxLen ∧ cur.size = cap * size ∧ cur.toList.take (n * size) = xs)
theorem ownsM_of {w : World} {m : Bool} {b : Nat} {e : TypeId} {size n : Nat} {v : Value} {xs : List Value} (h : w.ownsRow b e size v n xs) : ownsM w m e size v n xs :=
  ⟨h.1, h.2.imp (fun h => h) fun ⟨g, cap, cur, h1, _, h2, h3⟩ => ⟨g, cap, cur, (0, 0), h1, h2, .inl rfl, h3⟩⟩
theorem ownsM_to {w : World} {e : TypeId} {size n : Nat} {v : Value} {xs : List Value} (h : ownsM w false e size v n xs) : w.ownsRow 0 e size v n xs :=
  ⟨h.1, h.2.imp (fun h => h) fun ⟨g, cap, cur, fz, h1, h2, h3, h4⟩ => ⟨g, cap, cur, h1, Nat.zero_le _, (by
    rcases h3 with rfl | ⟨h3, _⟩
    · exact h2
    · cases h3), h4⟩⟩
theorem ownsM_lt {w : World} {m : Bool} {e : TypeId} {size n : Nat} {v : Value} {xs : List Value} (h : ownsM w m e size v n xs) : ∀ k, v.ownBlock = some k → 0 ≤ k ∧ k < w.heap.size := by
  intro k hk
  rcases h.2 with ⟨rfl, _⟩ | ⟨g, cap, cur, fz, rfl, hg, _⟩
  · simp [Value.ownBlock] at hk
  · simp [Value.ownBlock] at hk
    subst hk
    exact ⟨Nat.zero_le _, (Array.getElem?_eq_some_iff.1 hg).1⟩
theorem ownsM_cells {w : World} {m : Bool} {e : TypeId} {size n : Nat} {v : Value} {xs : List Value} (h : ownsM w m e size v n xs) {g : Nat} (hg : v.ownBlock = some g) : ∀ (j : Nat) u, xs[j]? = some u → w.cell? ((⟨g, 0, none⟩ : Addr).add j) = some u := by
  intro j u hu
  rcases h.2 with ⟨rfl, _⟩ | ⟨g', cap, cur, fz, rfl, hgg, _, _, _, _, ht⟩
  · simp [Value.ownBlock] at hg
  · simp [Value.ownBlock] at hg
    subst hg
    have hadd : (⟨g', 0, none⟩ : Addr).add j = ⟨g', j, none⟩ := by unfold Addr.add; split <;> simp_all
    rw [hadd]
    rw [← ht, List.getElem?_take] at hu
    split at hu
    · simp [World.cell?, hgg]
      simpa using hu
    · cases hu
def OwnRep (w : World) (Pj : Nat → Prop) (e : TypeId) (u : Value) (d : Row) : Prop :=
  ∃ cs : List Value, ownsM w d.isB e d.wd u d.len cs ∧ ∀ (j : Nat) c, d.flat[j]? = some c → ∃ x : Value, cs[j]? = some x ∧ DRep w Pj x c

theorem add_block (ad : Addr) (j : Nat) : (ad.add j).block = ad.block := by unfold Addr.add; split <;> rfl
theorem DRep.chg {X Pj Pj' : Nat → Prop} {w w' : World} (h : Chg X w w') (hx : ∀ j, Pj j → ¬ X j) (hp : ∀ j, Pj j → Pj' j) {u : Value} {c : DC} (hr : DRep w Pj u c) : DRep w' Pj' u c := by
  cases c with
  | sc v => exact hr
  | ir xs =>
    obtain ⟨A, cap, h1, h2, h3⟩ := hr
    refine ⟨A, cap, h1, h2, fun hl => ?_⟩
    obtain ⟨ad, ha, hb, hc⟩ := h3 hl
    exact ⟨ad, ha, hp _ hb, fun j hj => h.cell (hc j hj) (by rw [add_block]; exact hx _ hb)⟩
theorem RowRep.chg {X Pj Pj' : Nat → Prop} {w w' : World} (h : Chg X w w') (hx : ∀ j, Pj j → ¬ X j) (hp : ∀ j, Pj j → Pj' j) {u : Value} {d : Row} (hr : RowRep w Pj u d) : RowRep w' Pj' u d := by
  obtain ⟨A, cap, h1, h2, h3⟩ := hr
  refine ⟨A, cap, h1, h2, fun hl => ?_⟩
  obtain ⟨ad, ha, hb, hc⟩ := h3 hl
  refine ⟨ad, ha, hp _ hb, fun j c hj => ?_⟩
  obtain ⟨x, hx1, hx2⟩ := hc j c hj
  exact ⟨x, h.cell hx1 (by rw [add_block]; exact hx _ hb), hx2.chg h hx hp⟩
theorem ownsRow_chg {X : Nat → Prop} {w w' : World} (h : Chg X w w') {m : Bool} {e : TypeId} {size n : Nat} {v : Value} {xs : List Value} (hr : ownsM w m e size v n xs) (hx : ∀ j, v.ownBlock = some j → ¬ X j) : ownsM w' m e size v n xs := by
  refine ⟨hr.1, ?_⟩
  rcases hr.2 with h1 | ⟨g, cap, cur, fz, rfl, hg, rest⟩
  · exact .inl h1
  · refine .inr ⟨g, cap, cur, fz, rfl, ?_, rest⟩
    rw [h.block g (Array.getElem?_eq_some_iff.1 hg).1 (hx g rfl)]
    exact hg
theorem OwnRep.chg {X Pj Pj' : Nat → Prop} {w w' : World} (h : Chg X w w') (hx : ∀ j, Pj j → ¬ X j) (hp : ∀ j, Pj j → Pj' j) {e : TypeId} {u : Value} {d : Row} (hr : OwnRep w Pj e u d) (ho : ∀ j, u.ownBlock = some j → ¬ X j) : OwnRep w' Pj' e u d := by
  obtain ⟨cs, h1, h2⟩ := hr
  exact ⟨cs, ownsRow_chg h h1 ho, fun j c hj => let ⟨x, hx1, hx2⟩ := h2 j c hj; ⟨x, hx1, hx2.chg h hx hp⟩⟩
theorem flat_len (d : Row) : d.flat.length = d.len * d.wd := by
  cases d with
  | ints k xs => simp [Row.flat, Row.len, Row.wd]
  | strs xs => simp [Row.flat, Row.len, Row.wd]
  | eqs xs =>
    simp only [Row.flat, Row.len, Row.wd]
    induction xs with
    | nil => rfl
    | cons x xs ih => simp only [List.flatMap_cons, List.length_append, ih, List.length_cons, List.length_nil]; omega
  | deqs xs =>
    simp only [Row.flat, Row.len, Row.wd]
    induction xs with
    | nil => rfl
    | cons x xs ih => simp only [List.flatMap_cons, List.length_append, ih, List.length_cons, List.length_nil]; omega
  | arr k xs => simp [Row.flat, Row.len, Row.wd]
theorem wd_pos (d : Row) : 0 < d.wd := by cases d <;> simp [Row.wd]
/-- A row of one's own, looked at. -/
theorem OwnRep.row {w : World} {Pj : Nat → Prop} {e : TypeId} {u : Value} {d : Row} (hr : OwnRep w Pj e u d) {Pk : Nat → Prop} (hp : ∀ j, Pj j → Pk j) (ho : ∀ j, u.ownBlock = some j → Pk j) : RowRep w Pk u d := by
  obtain ⟨cs, h1, h2⟩ := hr
  have hcell := fun {g} (hg : u.ownBlock = some g) => ownsM_cells h1 (g := g) hg
  have hsh : (u = .slice none 0 0 ∧ d.len = 0) ∨ ∃ g cap, u = .slice (some ⟨g, 0, none⟩) d.len cap ∧ d.len ≤ cap := by
    rcases h1.2 with h | ⟨g, cap, cur, fz, h, _, _, hl, _⟩
    · exact .inl h
    · exact .inr ⟨g, cap, h, hl⟩
  rcases hsh with ⟨rfl, hn⟩ | ⟨g, cap, rfl, hl⟩
  · exact ⟨none, 0, by rw [hn], by omega, fun hp => by omega⟩
  · refine ⟨_, cap, rfl, hl, fun _ => ⟨_, rfl, ho g rfl, fun j c hj => ?_⟩⟩
    obtain ⟨x, hx1, hx2⟩ := h2 j c hj
    exact ⟨x, hcell rfl j x hx1, hx2.chg (Chg.refl (fun _ => False) w) (fun _ _ h => h) hp⟩

/-! ### The relation -/
/-- An inner row of one's own for each element. -/
def Inn (w : World) (us : List Value) (es : List (List Int × ByteArray)) : Prop := us.length = es.length ∧ ∀ (j : Nat) x, us[j]? = some x → ∃ e, ownsM w false e 1 x (es.getD j eqD).1.length ((es.getD j eqD).1.map (Value.int .i64))
/-- The blocks of a row of one's own. -/
def Obk (w : World) (u : Value) (d : Row) (l : List Nat) : Prop := match d with
  | .deqs es => ∃ (e : TypeId) (cs us : List Value), ownsM w false e 2 u es.length cs ∧ (∀ j, j < es.length → cs[2 * j]? = us[j]?) ∧ Inn w us es ∧ l = u.ownBlock.toList ++ us.filterMap Value.ownBlock ∧ l.Nodup
  | _ => l = u.ownBlock.toList
theorem Obk.flat {w : World} {u : Value} {d : Row} (hd : d.deep = false) {l : List Nat} : Obk w u d l ↔ l = u.ownBlock.toList := by
  cases d with
  | deqs es => cases hd
  | _ => exact Iff.rfl
theorem Obk.nodup {w : World} {u : Value} {d : Row} {l : List Nat} (h : Obk w u d l) : l.Nodup := by
  cases hd : d.deep with
  | false =>
    rw [(Obk.flat hd).1 h]
    cases u.ownBlock <;> simp
  | true =>
    cases d with
    | deqs es => obtain ⟨_, _, _, _, _, _, _, h⟩ := h; exact h
    | _ => cases hd
theorem Obk.lt {w : World} {Pj : Nat → Prop} {e : TypeId} {u : Value} {d : Row} {l : List Nat} (h : Obk w u d l) (ho : OwnRep w Pj e u d) : ∀ b, b ∈ l → b < w.heap.size := fun b hb => by
  obtain ⟨cs, h1, _⟩ := ho
  cases hd : d.deep with
  | false =>
    rw [(Obk.flat hd).1 h] at hb
    exact (ownsM_lt h1 b (by simpa using hb)).2
  | true =>
    cases d with
    | deqs es =>
      obtain ⟨_, _, us, _, _, hi, rfl, _⟩ := h
      rcases List.mem_append.1 hb with hb | hb
      · exact (ownsM_lt h1 b (by simpa using hb)).2
      · obtain ⟨x, hx, hxb⟩ := List.mem_filterMap.1 hb
        obtain ⟨j, hj⟩ := List.getElem?_of_mem hx
        obtain ⟨_, ho⟩ := hi.2 j x hj
        exact (ownsM_lt ho b hxb).2
    | _ => cases hd
theorem Obk.out {w : World} {u : Value} {d : Row} {l : List Nat} (h : Obk w u d l) : ∀ b, u.ownBlock = some b → b ∈ l := fun b hb => by
  cases hd : d.deep with
  | false => rw [(Obk.flat hd).1 h, hb]; simp
  | true =>
    cases d with
    | deqs es =>
      obtain ⟨_, _, us, _, _, hi, rfl, _⟩ := h
      exact List.mem_append_left _ (by rw [hb]; simp)
    | _ => cases hd
theorem Obk.chg {X : Nat → Prop} {w w' : World} {u : Value} {d : Row} {l : List Nat} (h : Obk w u d l) (hc : Chg X w w') (hX : ∀ b, b ∈ l → ¬ X b) : Obk w' u d l := by
  cases hd : d.deep with
  | false => exact (Obk.flat hd).2 ((Obk.flat hd).1 h)
  | true =>
    cases d with
    | deqs es =>
      obtain ⟨e, cs, us, h1, h2, h3, rfl, h5⟩ := h
      refine ⟨e, cs, us, ownsRow_chg hc h1 fun b hb => hX b (List.mem_append_left _ (by rw [hb]; simp)), h2, ⟨h3.1, fun j x hx => ?_⟩, rfl, h5⟩
      obtain ⟨e', ho⟩ := h3.2 j x hx
      exact ⟨e', ownsRow_chg hc ho fun b hb => hX b (List.mem_append_right _ (List.mem_filterMap.2 ⟨x, List.mem_of_getElem? hx, hb⟩))⟩
    | _ => cases hd
/-- Where the inner rows of a row lie: with the others, or in its own blocks. -/
def rg (P : Nat → Prop) (d : Row) (l : List Nat) (j : Nat) : Prop := match d.deep with
  | true => j ∈ l
  | false => P j
theorem nil_flat {k : RK} (h : k.isArr = false) : (Row.nil k).deep = false := by cases k <;> first | rfl | cases h
theorem kind_flat {d : Row} (h : d.kind.isArr = false) : d.deep = false := by cases d <;> first | rfl | cases h
theorem rg_flat {P : Nat → Prop} {d : Row} {l : List Nat} (hd : d.deep = false) : rg P d l = P := by
  funext j
  unfold rg
  rw [hd]
theorem rg_all {P Q : Nat → Prop} {d : Row} {l : List Nat} (h1 : ∀ j, P j → Q j) (h2 : ∀ j, j ∈ l → Q j) : ∀ j, rg P d l j → Q j := fun j hj => by
  unfold rg at hj
  split at hj
  · exact h2 j hj
  · exact h1 j hj
theorem rg_mono {P Q : Nat → Prop} {d : Row} {l : List Nat} (h1 : ∀ j, P j → Q j) : ∀ j, rg P d l j → rg Q d l j := fun j hj => by
  unfold rg at hj ⊢
  split at hj
  · exact hj
  · exact h1 j hj
theorem shal_flat {d : Row} (hd : d.deep = false) : d.shal = d := by
  cases d with
  | deqs es => cases hd
  | _ => rfl
theorem shal_eq (d : Row) : d.shal.flat = d.flat ∧ d.shal.len = d.len ∧ d.shal.wd = d.wd := by cases d <;> exact ⟨rfl, rfl, rfl⟩
theorem RowRep.shal {w : World} {P : Nat → Prop} {u : Value} {d : Row} (h : RowRep w P u d) : RowRep w P u d.shal := by
  unfold RowRep
  rw [(shal_eq d).1, (shal_eq d).2.1]
  exact h
structure Gm where
  rv : Nat → Value
  /-- The blocks of a row of one's own. -/
  ob : Nat → List Nat
  wd : Nat → Nat
  ln : Nat → Nat
  bb : Nat → Nat
  G : Nat → Prop
  dr : Nat → Prop
  db : Nat → Prop
def PG (g : Gm) (N : Nat → Prop) (fr : Bool) (j : Nat) : Prop := g.G j ∧ (fr = true → N j)
def CellRep (g : Gm) (N : Nat → Prop) (w : World) (u : Value) : Cell → Prop
  | .sc v => u = v
  | .ro fr d => RowRep w (PG g N fr) u d
  | .ref i => g.dr i ∧ u = g.rv i
def V1Rep (g : Gm) (N : Nat → Prop) (w : World) (u : Value) : V1 → Prop
  | .cell c => CellRep g N w u c
  | .agg cs => ∃ us : List Value, u = .agg us.toArray ∧ All2 (CellRep g N w) us cs
def AVRep (g : Gm) (N : Nat → Prop) (w : World) (u : Value) : AV → Prop
  | .v x => V1Rep g N w u x
  | .tup vs => ∃ us : List Value, u = .tuple us.toArray ∧ All2 (V1Rep g N w) us vs
  | .bx b off => g.db b ∧ u = .pointer (some ⟨g.bb b, off, none⟩)
  | .pe fr cs => ∃ ad, u = .pointer (some ad) ∧ PG g N fr ad.block ∧ ∀ j c, cs[j]? = some c → ∃ x, w.cell? (ad.add j) = some x ∧ DRep w (PG g N fr) x c
  | .pr i e off => g.dr i ∧ e < g.ln i ∧ ∃ ad len cap, g.rv i = .slice (some ad) len cap ∧ u = .pointer (some (ad.add (e * g.wd i + off))) ∧ ad.spot = none
  | .vw i lo hi => g.dr i ∧ lo ≤ hi ∧ hi ≤ g.ln i ∧ ∃ A len cap, g.rv i = .slice A len cap ∧ u = .slice (if cap = lo then A else A.map (·.add (lo * g.wd i))) (hi - lo) (cap - lo)
  | .ap i => g.dr i ∧ ∃ ad len cap, g.rv i = .slice (some ad) len cap ∧ u = .pointer (some ad) ∧ ad.spot = none
  | .gp n i => u = .pointer (some ⟨n, i, none⟩)

theorem PG.mono {g g' : Gm} {N : Nat → Prop} {fr : Bool} (h : ∀ j, g.G j → g'.G j) {j : Nat} (hp : PG g N fr j) : PG g' N fr j := ⟨h j hp.1, hp.2⟩
/-- The ghost grows. -/
structure Gm.le (g g' : Gm) : Prop where
  rv : ∀ i, g.dr i → g'.rv i = g.rv i
  ob : ∀ i, g.dr i → g'.ob i = g.ob i
  wd : ∀ i, g.dr i → g'.wd i = g.wd i
  ln : ∀ i, g.dr i → g'.ln i = g.ln i
  bb : ∀ i, g.db i → g'.bb i = g.bb i
  G : ∀ j, g.G j → g'.G j
  dr : ∀ i, g.dr i → g'.dr i
  db : ∀ i, g.db i → g'.db i
theorem Gm.le_refl (g : Gm) : g.le g := ⟨fun _ _ => rfl, fun _ _ => rfl, fun _ _ => rfl, fun _ _ => rfl, fun _ _ => rfl, fun _ h => h, fun _ h => h, fun _ h => h⟩
section
variable {X : Nat → Prop} {w w' : World} {g g' : Gm} {N : Nat → Prop}
theorem CellRep.chg (h : Chg X w w') (hx : ∀ j, g.G j → ¬ X j) (hg : g.le g') {u : Value} {c : Cell} (hr : CellRep g N w u c) : CellRep g' N w' u c := by
  cases c with
  | sc v => exact hr
  | ro fr d => exact RowRep.chg h (fun j hj => hx j hj.1) (fun j hj => hj.mono hg.G) hr
  | ref i => exact ⟨hg.dr i hr.1, hr.2.trans (hg.rv i hr.1).symm⟩
theorem V1Rep.chg (h : Chg X w w') (hx : ∀ j, g.G j → ¬ X j) (hg : g.le g') {u : Value} {c : V1} (hr : V1Rep g N w u c) : V1Rep g' N w' u c := by
  cases c with
  | cell c => exact CellRep.chg h hx hg hr
  | agg cs => obtain ⟨us, h1, h2⟩ := hr; exact ⟨us, h1, h2.imp fun _ _ h' => CellRep.chg h hx hg h'⟩
theorem AVRep.chg (h : Chg X w w') (hx : ∀ j, g.G j → ¬ X j) (hg : g.le g') {u : Value} {c : AV} (hr : AVRep g N w u c) : AVRep g' N w' u c := by
  cases c with
  | v x => exact V1Rep.chg h hx hg hr
  | tup vs => obtain ⟨us, h1, h2⟩ := hr; exact ⟨us, h1, h2.imp fun _ _ h' => V1Rep.chg h hx hg h'⟩
  | bx b off => exact ⟨hg.db b hr.1, by rw [hg.bb b hr.1]; exact hr.2⟩
  | pe fr cs =>
    obtain ⟨ad, h1, h2, h3⟩ := hr
    refine ⟨ad, h1, h2.mono hg.G, fun j c hj => ?_⟩
    obtain ⟨x, hx1, hx2⟩ := h3 j c hj
    exact ⟨x, h.cell hx1 (by rw [add_block]; exact hx _ h2.1), hx2.chg h (fun j hj => hx j hj.1) (fun j hj => hj.mono hg.G)⟩
  | pr i e off =>
    obtain ⟨h1, h0, ad, len, cap, h2, h3⟩ := hr
    exact ⟨hg.dr i h1, by rw [hg.ln i h1]; exact h0, ad, len, cap, by rw [hg.rv i h1]; exact h2, by rw [hg.wd i h1]; exact h3⟩
  | vw i lo hi =>
    obtain ⟨h1, h0, h3, A, len, cap, h2, h4⟩ := hr
    exact ⟨hg.dr i h1, h0, by rw [hg.ln i h1]; exact h3, A, len, cap, by rw [hg.rv i h1]; exact h2, by rw [hg.wd i h1]; exact h4⟩
  | ap i =>
    obtain ⟨h1, ad, len, cap, h2, h3⟩ := hr
    exact ⟨hg.dr i h1, ad, len, cap, by rw [hg.rv i h1]; exact h2, h3⟩
  | gp n i => exact hr
end

/-- The packages' tables lie in the world. -/
def gvOk (b : Bool) (c : Value) : Prop := match b with
  | true => ∃ m, c = .int .i64 m
  | false => ∃ tp p, c = .iface tp p
structure GlW (ek : EK) (w : World) (bs : List Nat) : Prop where
  tab : ∀ n k xs, (n, k, xs) ∈ ek.gl → (n < w.heap.size ∧ n ∉ bs) ∧ ∃ t fz, w.heap[n]? = some (.cells (xs.map (Value.int k)).toArray t fz)
  one : ∀ n b, (n, b) ∈ ek.gv → (n < w.heap.size ∧ n ∉ bs) ∧ ∃ c t fz, w.heap[n]? = some (.cells #[c] t fz) ∧ gvOk b c
theorem GlW.cell {ek : EK} {w : World} {bs : List Nat} (h : GlW ek w bs) {n : Nat} {k : IntKind} {xs : List Int} (hm : (n, k, xs) ∈ ek.gl) {i : Nat} (hi : i < xs.length) : w.cell? ⟨n, i, none⟩ = some (.int k (xs.getD i 0)) := by
  obtain ⟨_, t, fz, h1⟩ := h.tab n k xs hm
  simp [World.cell?, h1, List.getD_eq_getElem?_getD, List.getElem?_eq_getElem hi]
/-- Where the state's frame stands: the kinds' element types; blocks from 'base' on are the call's own; pb: old blocks that are lent to be written. -/
structure Fr where
  ek : EK
  base : Nat
  N : Nat → Prop
  hN : ∀ j, base ≤ j → N j
  pb : List Nat
  w0 : World
  nt : Nat
  A : Nat → Prop
  gl : GlW ek w0 pb
def Fr.M (F : Fr) (j : Nat) : Prop := j ∈ F.pb
def RowOk (F : Fr) (g : Gm) (w : World) (i : Nat) (own fr : Bool) (d : Row) : Prop :=
  g.dr i ∧ (g.wd i = d.wd ∧ g.ln i = d.len) ∧ match own with
  | true => (∃ e, ekOf F.ek d.kind = some e ∧ OwnRep w (rg (PG g F.N fr) d (g.ob i)) e (g.rv i) d ∧ Obk w (g.rv i) d (g.ob i)) ∧ ∀ b, b ∈ g.ob i → ¬ g.G b ∧ (F.base ≤ b ∨ F.M b) ∧ (fr = true → F.N b)
  | false => RowRep w (PG g F.N fr) (g.rv i) d
def BoxOk (F : Fr) (g : Gm) (w : World) (b : Nat) (cs : List Cell) : Prop :=
  g.db b ∧ ∃ (us : List Value) (ty : TypeId), w.heap[g.bb b]? = some (.cells us.toArray ty (0, 0)) ∧ All2 (CellRep g F.N w) us cs ∧ ¬ g.G (g.bb b) ∧ (F.base ≤ g.bb b ∨ F.M (g.bb b))
structure Sat (F : Fr) (σ : St) (a : Act) (w : World) (g : Gm) : Prop where
  chg : Chg F.M F.w0 w
  base : F.base = F.w0.heap.size
  defs : a.defers = []
  nts : a.tmps.size = F.nt
  tmp : ∀ t x, get σ (.t t) = .av x → AVRep g F.N w (a.tmps.getD t undef) x
  row : ∀ i own fr d, get σ (.r i) = .row own fr d → RowOk F g w i own fr d
  box : ∀ b cs, get σ (.b b) = .box cs → BoxOk F g w b cs
  dr : ∀ i, g.dr i → get σ (.r i) ≠ .no ∧ ∃ A l c, g.rv i = .slice A l c
  db : ∀ i, g.db i → get σ (.b i) ≠ .no
  gb : ∀ j, g.G j → j < w.heap.size
  sepR : ∀ i j fr d fr' d' b, i ≠ j → get σ (.r i) = .row true fr d → get σ (.r j) = .row true fr' d' → b ∈ g.ob i → b ∉ g.ob j
  sepB : ∀ b c cs cs', b ≠ c → get σ (.b b) = .box cs → get σ (.b c) = .box cs' → g.bb b ≠ g.bb c
  sepRB : ∀ i b fr d cs, get σ (.r i) = .row true fr d → get σ (.b b) = .box cs → g.bb b ∉ g.ob i
  pb : ∀ (j n : Nat), F.pb[j]? = some n → g.db j ∧ g.bb j = n
  ga : ∀ j, g.G j → F.A j ∨ F.M j ∨ F.base ≤ j
/-- A block that is the call's to write, and none of those that the state speaks of. -/
structure Priv (F : Fr) (σ : St) (g : Gm) (b : Nat) : Prop where
  ng : ¬ g.G b
  row : ∀ i fr d, get σ (.r i) = .row true fr d → b ∉ g.ob i
  box : ∀ c cs, get σ (.b c) = .box cs → g.bb c ≠ b
  base : F.base ≤ b ∨ F.M b
theorem Sat.ext {F : Fr} {σ τ : St} {a : Act} {w : World} {g : Gm} (h : Sat F σ a w g) (he : ∀ l, get τ l = get σ l) : Sat F τ a w g := by
  obtain ⟨h1, h2, h3, h4, h5, h6, h7, h8, h9, h10, h11, h12, h13, h14, h15⟩ := h
  exact ⟨h1, h2, h3, h4, fun t x hx => h5 t x (by rw [← he]; exact hx), fun i o f d hx => h6 i o f d (by rw [← he]; exact hx), fun b cs hx => h7 b cs (by rw [← he]; exact hx),
    fun i hi => by rw [he]; exact h8 i hi, fun i hi => by rw [he]; exact h9 i hi, h10,
    fun i j f d f' d' b hij hi hj => h11 i j f d f' d' b hij (by rw [← he]; exact hi) (by rw [← he]; exact hj),
    fun b c cs cs' hbc hb hc => h12 b c cs cs' hbc (by rw [← he]; exact hb) (by rw [← he]; exact hc),
    fun i b f d cs hi hb => h13 i b f d cs (by rw [← he]; exact hi) (by rw [← he]; exact hb), h14, h15⟩
/-- Fewer slots: weaker. -/
theorem Sat.weaken {F : Fr} {σ τ : St} {a : Act} {w : World} {g : Gm} (h : Sat F σ a w g) (ht : ∀ t x, get τ (.t t) = .av x → get σ (.t t) = .av x) (hr : ∀ i, get τ (.r i) = get σ (.r i)) (hb : ∀ i, get τ (.b i) = get σ (.b i)) : Sat F τ a w g := by
  obtain ⟨h1, h2, h3, h4, h5, h6, h7, h8, h9, h10, h11, h12, h13, h14, h15⟩ := h
  exact ⟨h1, h2, h3, h4, fun t x hx => h5 t x (ht t x hx), fun i o f d hx => h6 i o f d (by rw [← hr]; exact hx), fun b cs hx => h7 b cs (by rw [← hb]; exact hx),
    fun i hi => by rw [hr]; exact h8 i hi, fun i hi => by rw [hb]; exact h9 i hi, h10,
    fun i j f d f' d' b hij hi hj => h11 i j f d f' d' b hij (by rw [← hr]; exact hi) (by rw [← hr]; exact hj),
    fun b c cs cs' hbc hb1 hc => h12 b c cs cs' hbc (by rw [← hb]; exact hb1) (by rw [← hb]; exact hc),
    fun i b f d cs hi hb1 => h13 i b f d cs (by rw [← hr]; exact hi) (by rw [← hb]; exact hb1), h14, h15⟩
section
variable {F : Fr} {σ : St} {a : Act} {w w' : World} {g : Gm}
theorem Sat.world {X : Nat → Prop} (h : Sat F σ a w g) (hc : Chg X w w') (hX : ∀ j, j < w.heap.size → X j → Priv F σ g j) : Sat F σ a w' g := by
  have hxg : ∀ j, g.G j → ¬ X j := fun j hj hx => (hX j (h.gb j hj) hx).ng hj
  have hlt : ∀ i own fr d b, get σ (.r i) = .row own fr d → own = true → b ∈ g.ob i → b < w.heap.size := fun i own fr d b hi ho hb => by
    subst ho
    obtain ⟨_, _, ⟨e, _, ho, hk⟩, _⟩ := h.row i _ _ _ hi
    exact hk.lt ho b hb
  refine ⟨⟨hc.os.trans h.chg.os, hc.tape.trans h.chg.tape, hc.output.trans h.chg.output, Nat.le_trans h.chg.size hc.size, fun j hj hm => ?_⟩, h.base, h.defs, h.nts, fun t x hx => (h.tmp t x hx).chg hc hxg g.le_refl, ?_, ?_, h.dr, h.db, fun j hj => Nat.lt_of_lt_of_le (h.gb j hj) hc.size, h.sepR, h.sepB, h.sepRB, h.pb, h.ga⟩
  · have hj' := Nat.lt_of_lt_of_le hj h.chg.size
    refine (hc.block j hj' fun hx => ?_).trans (h.chg.block j hj hm)
    rcases (hX j hj' hx).base with hb | hb
    · have := h.base; omega
    · exact hm hb
  · intro i own fr d hi
    obtain ⟨h1, h2, h3⟩ := h.row i own fr d hi
    refine ⟨h1, h2, ?_⟩
    cases own with
    | true =>
      obtain ⟨⟨e, he, ho, hk⟩, hb⟩ := h3
      have hn : ∀ j, j ∈ g.ob i → ¬ X j := fun j hj hx => (hX j (hlt i true fr d j hi rfl hj) hx).row i fr d hi hj
      exact ⟨⟨e, he, ho.chg hc (rg_all (fun j hj => hxg j hj.1) hn) (fun j hj => hj) fun j hj => hn j (hk.out j hj), hk.chg hc hn⟩, hb⟩
    | false => exact RowRep.chg hc (fun j hj => hxg j hj.1) (fun j hj => hj) h3
  · intro b cs hb
    obtain ⟨h1, us, ty, h2, h3, h4⟩ := h.box b cs hb
    refine ⟨h1, us, ty, ?_, h3.imp fun _ _ h' => h'.chg hc hxg g.le_refl, h4⟩
    have hl := (Array.getElem?_eq_some_iff.1 h2).1
    rw [hc.block _ hl fun hx => (hX _ hl hx).box b cs hb rfl]
    exact h2
theorem Sat.fresh (h : Sat F σ a w g) {b : Nat} (hb : w.heap.size ≤ b) : Priv F σ g b := by
  refine ⟨fun hg => by have := h.gb b hg; omega, fun i fr d hi ho => ?_, fun c cs hc he => ?_, .inl ?_⟩
  · obtain ⟨_, _, ⟨e, _, ho', hk⟩, _⟩ := h.row i _ _ _ hi
    have := hk.lt ho' b ho
    omega
  · obtain ⟨_, us, ty, h2, _⟩ := h.box c cs hc
    have := (Array.getElem?_eq_some_iff.1 h2).1
    omega
  · have := h.base; have := h.chg.size; omega
theorem Sat.own_lt (h : Sat F σ a w g) {i : Nat} {fr : Bool} {d : Row} (hi : get σ (.r i) = .row true fr d) {b : Nat} (hb : b ∈ g.ob i) : b < w.heap.size := by
  obtain ⟨_, _, ⟨e, _, ho', hk⟩, _⟩ := h.row i _ _ _ hi
  exact hk.lt ho' b hb
theorem Loc.r_ne {i j : Nat} (h : i ≠ j) : Loc.r i ≠ Loc.r j := fun e => h (by injection e)
theorem Loc.b_ne {i j : Nat} (h : i ≠ j) : Loc.b i ≠ Loc.b j := fun e => h (by injection e)
theorem Loc.t_ne {i j : Nat} (h : i ≠ j) : Loc.t i ≠ Loc.t j := fun e => h (by injection e)
/-- A row of one's own is given up. -/
theorem Sat.kill (h : Sat F σ a w g) {i : Nat} {fr : Bool} {d : Row} (hi : get σ (.r i) = .row true fr d) : Sat F ((.r i, .dead) :: σ) a w g ∧ ∀ b, b ∈ g.ob i → Priv F ((.r i, .dead) :: σ) g b := by
  have hr : ∀ j own fr' d', get ((.r i, .dead) :: σ) (.r j) = .row own fr' d' → j ≠ i ∧ get σ (.r j) = .row own fr' d' := fun j own fr' d' hj => by
    by_cases e : j = i
    · subst e; rw [get_same] at hj; cases hj
    · rw [get_other (Loc.r_ne e)] at hj; exact ⟨e, hj⟩
  have ht : ∀ t, get ((.r i, .dead) :: σ) (.t t) = get σ (.t t) := fun t => get_other (by simp) _ _
  have hb : ∀ t, get ((.r i, .dead) :: σ) (.b t) = get σ (.b t) := fun t => get_other (by simp) _ _
  refine ⟨⟨h.chg, h.base, h.defs, h.nts, fun t x hx => h.tmp t x (by rw [← ht]; exact hx), fun j own fr' d' hj => h.row j own fr' d' (hr _ _ _ _ hj).2, fun b cs hb' => h.box b cs (by rw [← hb]; exact hb'), fun j hj => ?_, fun j hj => by rw [hb]; exact h.db j hj, h.gb,
    fun j k f1 d1 f2 d2 b hjk hj hk => h.sepR j k f1 d1 f2 d2 b hjk (hr _ _ _ _ hj).2 (hr _ _ _ _ hk).2, fun b c cs cs' hbc h1 h2 => h.sepB b c cs cs' hbc (by rw [← hb]; exact h1) (by rw [← hb]; exact h2),
    fun j b f1 d1 cs hj h2 => h.sepRB j b f1 d1 cs (hr _ _ _ _ hj).2 (by rw [← hb]; exact h2), h.pb, h.ga⟩, fun b hob => ?_⟩
  · by_cases e : j = i
    · subst e; rw [get_same]; exact ⟨by simp, (h.dr j hj).2⟩
    · rw [get_other (Loc.r_ne e)]; exact h.dr j hj
  · obtain ⟨_, _, _, h3⟩ := h.row i _ _ _ hi
    obtain ⟨h4, h5, _⟩ := h3 b hob
    exact ⟨h4, fun j f1 d1 hj => fun e => h.sepR i j fr d f1 d1 b (Ne.symm (hr _ _ _ _ hj).1) hi (hr _ _ _ _ hj).2 hob e, fun c cs hc e => h.sepRB i c fr d cs hi (by rw [← hb]; exact hc) (by rw [e]; exact hob), h5⟩
def Gm.setR (g : Gm) (id : Nat) (v : Value) (d : Row) (l : List Nat := v.ownBlock.toList) : Gm := { g with rv := fun j => if j = id then v else g.rv j, ob := fun j => if j = id then l else g.ob j, wd := fun j => if j = id then d.wd else g.wd j, ln := fun j => if j = id then d.len else g.ln j, dr := fun j => g.dr j ∨ j = id }
theorem Gm.setR_le (g : Gm) {id : Nat} (h : ¬ g.dr id) (v : Value) (d : Row) (l : List Nat := v.ownBlock.toList) : g.le (g.setR id v d l) :=
  ⟨fun i hi => if_neg fun e : i = id => h (by rw [← e]; exact hi), fun i hi => if_neg fun e : i = id => h (by rw [← e]; exact hi), fun i hi => if_neg fun e : i = id => h (by rw [← e]; exact hi), fun i hi => if_neg fun e : i = id => h (by rw [← e]; exact hi), fun _ _ => rfl, fun _ h => h, fun _ h => .inl h, fun _ h => h⟩
theorem PG.setR {g : Gm} {id : Nat} {v : Value} {d : Row} {l : List Nat} {N : Nat → Prop} {fr : Bool} {j : Nat} (h : PG g N fr j) : PG (g.setR id v d l) N fr j := h
/-- A new row of one's own. -/
theorem Sat.newRowL (h : Sat F σ a w g) {id : Nat} (hid : get σ (.r id) = .no) {fr : Bool} {d : Row} {e : TypeId} {v : Value} (he : ekOf F.ek d.kind = some e) {l : List Nat} (ho : OwnRep w (rg (PG g F.N fr) d l) e v d) (hk : Obk w v d l)
    (hb : ∀ b, b ∈ l → Priv F σ g b ∧ (fr = true → F.N b)) : Sat F ((.r id, .row true fr d) :: σ) a w (g.setR id v d l) := by
  have hnd : ¬ g.dr id := fun hd => (h.dr id hd).1 hid
  have hsl : ∃ A l c, v = .slice A l c := by
    obtain ⟨cs, ho1, _⟩ := ho
    rcases ho1.2 with ⟨h, _⟩ | ⟨g', cap, cur, fz, h, _⟩
    · exact ⟨_, _, _, h⟩
    · exact ⟨_, _, _, h⟩
  have hle := g.setR_le hnd v d l
  have hng : ∀ j, g.G j → ¬ (fun _ : Nat => False) j := fun _ _ h => h
  have hr : ∀ j own fr' d', get ((.r id, .row true fr d) :: σ) (.r j) = .row own fr' d' → (j = id ∧ own = true ∧ fr' = fr ∧ d' = d) ∨ (j ≠ id ∧ get σ (.r j) = .row own fr' d') := fun j own fr' d' hj => by
    by_cases e : j = id
    · subst e; rw [get_same] at hj; cases hj; exact .inl ⟨rfl, rfl, rfl, rfl⟩
    · rw [get_other (Loc.r_ne e)] at hj; exact .inr ⟨e, hj⟩
  have ht : ∀ t, get ((.r id, .row true fr d) :: σ) (.t t) = get σ (.t t) := fun t => get_other (by simp) _ _
  have hbx : ∀ t, get ((.r id, .row true fr d) :: σ) (.b t) = get σ (.b t) := fun t => get_other (by simp) _ _
  have hrid : (g.setR id v d l).rv id = v := if_pos rfl
  have hro : ∀ j, j ≠ id → (g.setR id v d l).rv j = g.rv j := fun j hj => if_neg hj
  have hoid : (g.setR id v d l).ob id = l := if_pos rfl
  have hoo : ∀ j, j ≠ id → (g.setR id v d l).ob j = g.ob j := fun j hj => if_neg hj
  refine ⟨h.chg, h.base, h.defs, h.nts, fun t x hx => (h.tmp t x (by rw [← ht]; exact hx)).chg (Chg.refl _ w) hng hle, ?_, ?_, ?_, fun j hj => by rw [hbx]; exact h.db j hj, h.gb, ?_, ?_, ?_, h.pb, h.ga⟩
  · intro j own fr' d' hj
    rcases hr j own fr' d' hj with ⟨rfl, rfl, rfl, rfl⟩ | ⟨hne, hj'⟩
    · refine ⟨.inr rfl, ⟨if_pos rfl, if_pos rfl⟩, ⟨e, he, by rw [hrid, hoid]; exact ho, by rw [hrid, hoid]; exact hk⟩, fun b hb' => ?_⟩
      rw [hoid] at hb'
      exact ⟨(hb b hb').1.ng, (hb b hb').1.base, (hb b hb').2⟩
    · obtain ⟨h1, h2, h3⟩ := h.row j own fr' d' hj'
      refine ⟨.inl h1, ⟨(if_neg hne).trans h2.1, (if_neg hne).trans h2.2⟩, ?_⟩
      rw [hro j hne, hoo j hne]
      exact h3
  · intro b cs hb'
    obtain ⟨h1, us, ty, h2, h3, h4⟩ := h.box b cs (by rw [← hbx]; exact hb')
    exact ⟨h1, us, ty, h2, h3.imp fun _ _ h' => h'.chg (Chg.refl _ w) hng hle, h4⟩
  · intro j hj
    by_cases e : j = id
    · subst e; rw [get_same, hrid]; exact ⟨by simp, hsl⟩
    · rw [get_other (Loc.r_ne e), hro j e]; exact h.dr j (hj.resolve_right e)
  · intro i j f1 d1 f2 d2 b hij hi hj hob
    rcases hr i _ _ _ hi with ⟨rfl, _, _, _⟩ | ⟨hi1, hi2⟩
    · rcases hr j _ _ _ hj with ⟨rfl, _, _, _⟩ | ⟨hj1, hj2⟩
      · exact absurd rfl hij
      · rw [hoo j hj1]; rw [hoid] at hob; exact (hb b hob).1.row j _ _ hj2
    · rw [hoo i hi1] at hob
      rcases hr j _ _ _ hj with ⟨rfl, _, _, _⟩ | ⟨hj1, hj2⟩
      · rw [hoid]; exact fun e => (hb b e).1.row i _ _ hi2 hob
      · rw [hoo j hj1]; exact h.sepR i j _ _ _ _ b hij hi2 hj2 hob
  · intro b c cs cs' hbc h1 h2
    exact h.sepB b c cs cs' hbc (by rw [← hbx]; exact h1) (by rw [← hbx]; exact h2)
  · intro i b f1 d1 cs hi h2
    rcases hr i _ _ _ hi with ⟨rfl, _, _, _⟩ | ⟨hi1, hi2⟩
    · rw [hoid]; exact fun e => (hb _ e).1.box b cs (by rw [← hbx]; exact h2) rfl
    · rw [hoo i hi1]; exact h.sepRB i b _ _ cs hi2 (by rw [← hbx]; exact h2)
theorem Sat.newRow (h : Sat F σ a w g) {id : Nat} (hid : get σ (.r id) = .no) {fr : Bool} {d : Row} {e : TypeId} {v : Value} (he : ekOf F.ek d.kind = some e) (ho : OwnRep w (PG g F.N fr) e v d)
    (hb : ∀ b, v.ownBlock = some b → Priv F σ g b ∧ (fr = true → F.N b)) (hd : d.deep = false := by rfl) : Sat F ((.r id, .row true fr d) :: σ) a w (g.setR id v d) :=
  h.newRowL hid he (by rw [rg_flat hd]; exact ho) ((Obk.flat hd).2 rfl) fun b hb' => hb b (by simpa using hb')
/-- A row that was given up stands again, its block the same. -/
theorem Sat.reRow (h : Sat F σ a w g) {i : Nat} (hdr : g.dr i) {fr : Bool} {d : Row} {e : TypeId} (hw : g.wd i = d.wd) (hl : g.ln i = d.len) (he : ekOf F.ek d.kind = some e) (ho : OwnRep w (rg (PG g F.N fr) d (g.ob i)) e (g.rv i) d) (hk : Obk w (g.rv i) d (g.ob i))
    (hp : ∀ b, b ∈ g.ob i → Priv F σ g b ∧ (fr = true → F.N b)) : Sat F ((.r i, .row true fr d) :: σ) a w g := by
  have hr : ∀ j own fr2 d2, get ((.r i, .row true fr d) :: σ) (.r j) = .row own fr2 d2 → (j = i ∧ own = true ∧ fr2 = fr ∧ d2 = d) ∨ (j ≠ i ∧ get σ (.r j) = .row own fr2 d2) := fun j own fr2 d2 hj => by
    by_cases e : j = i
    · subst e; rw [get_same] at hj; cases hj; exact .inl ⟨rfl, rfl, rfl, rfl⟩
    · rw [get_other (Loc.r_ne e)] at hj; exact .inr ⟨e, hj⟩
  have ht : ∀ t, get ((.r i, .row true fr d) :: σ) (.t t) = get σ (.t t) := fun t => get_other (by simp) _ _
  have hbx : ∀ t, get ((.r i, .row true fr d) :: σ) (.b t) = get σ (.b t) := fun t => get_other (by simp) _ _
  refine ⟨h.chg, h.base, h.defs, h.nts, fun t x hx => h.tmp t x (by rw [← ht]; exact hx), ?_, fun b cs hb => h.box b cs (by rw [← hbx]; exact hb), ?_, fun j hj => by rw [hbx]; exact h.db j hj, h.gb, ?_, fun b c cs cs' hbc h1 h2 => h.sepB b c cs cs' hbc (by rw [← hbx]; exact h1) (by rw [← hbx]; exact h2), ?_, h.pb, h.ga⟩
  · intro j own fr2 d2 hj
    rcases hr j _ _ _ hj with ⟨rfl, rfl, rfl, rfl⟩ | ⟨hne, hj'⟩
    · exact ⟨hdr, ⟨hw, hl⟩, ⟨e, he, ho, hk⟩, fun b hb => ⟨(hp b hb).1.ng, (hp b hb).1.base, (hp b hb).2⟩⟩
    · exact h.row j own fr2 d2 hj'
  · intro j hj
    by_cases e : j = i
    · subst e; rw [get_same]; exact ⟨by simp, (h.dr j hj).2⟩
    · rw [get_other (Loc.r_ne e)]; exact h.dr j hj
  · intro j k f1 d1 f2 d2 b hjk hj hk' hob
    rcases hr j _ _ _ hj with ⟨rfl, _, _, _⟩ | ⟨hj1, hj2⟩
    · rcases hr k _ _ _ hk' with ⟨rfl, _, _, _⟩ | ⟨hk1', hk2'⟩
      · exact absurd rfl hjk
      · exact (hp b hob).1.row k _ _ hk2'
    · rcases hr k _ _ _ hk' with ⟨rfl, _, _, _⟩ | ⟨hk1', hk2'⟩
      · exact fun e => (hp b e).1.row j _ _ hj2 hob
      · exact h.sepR j k _ _ _ _ b hjk hj2 hk2' hob
  · intro j b f1 d1 cs hj hb
    rcases hr j _ _ _ hj with ⟨rfl, _, _, _⟩ | ⟨hj1, hj2⟩
    · exact fun e => (hp _ e).1.box b cs (by rw [← hbx]; exact hb) rfl
    · exact h.sepRB j b _ _ cs hj2 (by rw [← hbx]; exact hb)
theorem Priv.dead {b : Nat} (hp : Priv F σ g b) (i : Nat) : Priv F ((.r i, .dead) :: σ) g b := by
  refine ⟨hp.ng, fun j f1 d1 hj => ?_, fun c cs hc => hp.box c cs (by rw [get_other (by simp)] at hc; exact hc), hp.base⟩
  by_cases e : j = i
  · subst e; rw [get_same] at hj; cases hj
  · rw [get_other (Loc.r_ne e)] at hj; exact hp.row j f1 d1 hj
theorem Priv.again {i : Nat} {fr : Bool} {d : Row} {b : Nat} (hp : Priv F σ g b) (hb : b ∉ g.ob i) : Priv F ((.r i, .row true fr d) :: σ) g b := by
  refine ⟨hp.ng, fun j f1 d1 hj => ?_, fun c cs hc => hp.box c cs (by rw [get_other (by simp)] at hc; exact hc), hp.base⟩
  by_cases e : j = i
  · subst e; exact hb
  · rw [get_other (Loc.r_ne e)] at hj; exact hp.row j f1 d1 hj
/-- A row of one's own with other contents, its block the same. -/
theorem Sat.setRowL {X : Nat → Prop} (h : Sat F σ a w g) (hc : Chg X w w') {i : Nat} {fr : Bool} {d : Row} (hi : get σ (.r i) = .row true fr d) (hX : ∀ j, X j → j ∈ g.ob i)
    {fr' : Bool} {d' : Row} (hk : d'.kind = d.kind) (hw : d'.wd = d.wd) (hl : d'.len = d.len) (hfr : fr' = true → fr = true) (ho : ∀ e, ekOf F.ek d.kind = some e → OwnRep w (rg (PG g F.N fr) d (g.ob i)) e (g.rv i) d → OwnRep w' (rg (PG g F.N fr') d' (g.ob i)) e (g.rv i) d') (hko : Obk w (g.rv i) d (g.ob i) → Obk w' (g.rv i) d' (g.ob i)) : Sat F ((.r i, .row true fr' d') :: σ) a w' g := by
  obtain ⟨hk1, hk2⟩ := h.kill hi
  have hs := hk1.world hc fun j hj hx => hk2 j (hX j hx)
  obtain ⟨hr1, hr2, ⟨e, he, hown, hkk⟩, hr4⟩ := h.row i _ _ _ hi
  have hr : ∀ j own fr2 d2, get ((.r i, .row true fr' d') :: σ) (.r j) = .row own fr2 d2 → (j = i ∧ own = true ∧ fr2 = fr' ∧ d2 = d') ∨ (j ≠ i ∧ get ((.r i, .dead) :: σ) (.r j) = .row own fr2 d2) := fun j own fr2 d2 hj => by
    by_cases e : j = i
    · subst e; rw [get_same] at hj; cases hj; exact .inl ⟨rfl, rfl, rfl, rfl⟩
    · rw [get_other (Loc.r_ne e)] at hj; exact .inr ⟨e, by rw [get_other (Loc.r_ne e)]; exact hj⟩
  have ht : ∀ t, get ((.r i, .row true fr' d') :: σ) (.t t) = get ((.r i, .dead) :: σ) (.t t) := fun t => by rw [get_other (by simp), get_other (by simp)]
  have hbx : ∀ t, get ((.r i, .row true fr' d') :: σ) (.b t) = get ((.r i, .dead) :: σ) (.b t) := fun t => by rw [get_other (by simp), get_other (by simp)]
  refine ⟨hs.chg, hs.base, hs.defs, hs.nts, fun t x hx => hs.tmp t x (by rw [← ht]; exact hx), ?_, fun b cs hb => hs.box b cs (by rw [← hbx]; exact hb), ?_, fun j hj => by rw [hbx]; exact hs.db j hj, hs.gb, ?_, fun b c cs cs' hbc h1 h2 => hs.sepB b c cs cs' hbc (by rw [← hbx]; exact h1) (by rw [← hbx]; exact h2), ?_, hs.pb, hs.ga⟩
  · intro j own fr2 d2 hj
    rcases hr j _ _ _ hj with ⟨rfl, rfl, rfl, rfl⟩ | ⟨hne, hj'⟩
    · exact ⟨hr1, ⟨by rw [hw]; exact hr2.1, by rw [hl]; exact hr2.2⟩, ⟨e, by rw [hk]; exact he, ho e he hown, hko hkk⟩, fun b hb => ⟨(hr4 b hb).1, (hr4 b hb).2.1, fun hf => (hr4 b hb).2.2 (hfr hf)⟩⟩
    · exact hs.row j own fr2 d2 hj'
  · intro j hj
    by_cases e : j = i
    · subst e; rw [get_same]; exact ⟨by simp, (h.dr j hj).2⟩
    · rw [get_other (Loc.r_ne e)]; exact h.dr j hj
  · intro j k f1 d1 f2 d2 b hjk hj hk' hob
    rcases hr j _ _ _ hj with ⟨rfl, _, _, _⟩ | ⟨hj1, hj2⟩
    · rcases hr k _ _ _ hk' with ⟨rfl, _, _, _⟩ | ⟨hk1', hk2'⟩
      · exact absurd rfl hjk
      · exact (hk2 b hob).row k _ _ hk2'
    · rcases hr k _ _ _ hk' with ⟨rfl, _, _, _⟩ | ⟨hk1', hk2'⟩
      · exact fun e => (hk2 b e).row j _ _ hj2 hob
      · exact hs.sepR j k _ _ _ _ b hjk hj2 hk2' hob
  · intro j b f1 d1 cs hj hb
    rcases hr j _ _ _ hj with ⟨rfl, _, _, _⟩ | ⟨hj1, hj2⟩
    · exact fun e => (hk2 _ e).box b cs (by rw [← hbx]; exact hb) rfl
    · exact hs.sepRB j b _ _ cs hj2 (by rw [← hbx]; exact hb)
theorem Sat.setRow {X : Nat → Prop} (h : Sat F σ a w g) (hc : Chg X w w') {i : Nat} {fr : Bool} {d : Row} (hi : get σ (.r i) = .row true fr d) (hX : ∀ j, X j → j ∈ g.ob i)
    {fr' : Bool} {d' : Row} (hd : d.deep = false) (hd' : d'.deep = false) (hk : d'.kind = d.kind) (hw : d'.wd = d.wd) (hl : d'.len = d.len) (hfr : fr' = true → fr = true) (ho : ∀ e, ekOf F.ek d.kind = some e → OwnRep w (PG g F.N fr) e (g.rv i) d → OwnRep w' (PG g F.N fr') e (g.rv i) d') : Sat F ((.r i, .row true fr' d') :: σ) a w' g :=
  h.setRowL hc hi hX hk hw hl hfr (fun e he hr => by rw [rg_flat hd'] ; rw [rg_flat hd] at hr; exact ho e he hr) fun h => (Obk.flat hd').2 ((Obk.flat hd).1 h)
def Gm.addG (g : Gm) (Y : Nat → Prop) : Gm := { g with G := fun j => g.G j ∨ Y j }
theorem Gm.addG_le (g : Gm) (Y : Nat → Prop) : g.le (g.addG Y) := ⟨fun _ _ => rfl, fun _ _ => rfl, fun _ _ => rfl, fun _ _ => rfl, fun _ _ => rfl, fun _ h => .inl h, fun _ h => h, fun _ h => h⟩
/-- More blocks that are only read. -/
theorem Sat.moreG (h : Sat F σ a w g) {Y : Nat → Prop} (hY : ∀ j, Y j → j < w.heap.size ∧ (∀ i fr d, get σ (.r i) = .row true fr d → j ∉ g.ob i) ∧ (∀ c cs, get σ (.b c) = .box cs → g.bb c ≠ j) ∧ (F.A j ∨ F.M j ∨ F.base ≤ j)) : Sat F σ a w (g.addG Y) := by
  have hng : ∀ j, g.G j → ¬ (fun _ : Nat => False) j := fun _ _ h => h
  have hle := g.addG_le Y
  refine ⟨h.chg, h.base, h.defs, h.nts, fun t x hx => (h.tmp t x hx).chg (Chg.refl _ w) hng hle, ?_, ?_, h.dr, h.db, fun j hj => hj.elim (h.gb j) fun hy => (hY j hy).1, h.sepR, h.sepB, h.sepRB, h.pb, fun j hj => hj.elim (h.ga j) fun hy => (hY j hy).2.2.2⟩
  · intro i own fr d hi
    obtain ⟨h1, h2, h3⟩ := h.row i own fr d hi
    refine ⟨h1, h2, ?_⟩
    cases own with
    | true =>
      obtain ⟨⟨e, he, ho, hk⟩, hb⟩ := h3
      exact ⟨⟨e, he, ho.chg (Chg.refl (fun _ => False) w) (fun _ _ h => h) (rg_mono fun j hj => hj.mono hle.G) (fun _ _ h => h), hk⟩, fun b hb' => ⟨fun hg => hg.elim (hb b hb').1 fun hy => (hY b hy).2.1 i fr d hi hb', (hb b hb').2⟩⟩
    | false => exact RowRep.chg (Chg.refl (fun _ => False) w) (fun _ _ h => h) (fun j hj => hj.mono hle.G) h3
  · intro b cs hb
    obtain ⟨h1, us, ty, h2, h3, h4, h5⟩ := h.box b cs hb
    exact ⟨h1, us, ty, h2, h3.imp fun _ _ h' => h'.chg (Chg.refl _ w) hng hle, fun hg => hg.elim h4 fun hy => (hY _ hy).2.2.1 b cs hb rfl, h5⟩
/-- A row of one's own is only read from now on. -/
theorem Sat.freeze (h : Sat F σ a w g) {i : Nat} {fr : Bool} {d : Row} (hi : get σ (.r i) = .row true fr d) : ∃ g', Sat F ((.r i, .row false fr d.shal) :: σ) a w g' ∧ g.le g' ∧ (g'.rv = g.rv ∧ g'.ob = g.ob) ∧ ∀ j, j ∈ g.ob i → g'.G j := by
  obtain ⟨hk1, hk2⟩ := h.kill hi
  obtain ⟨hr1, hr2, ⟨e, he, hown, hkk⟩, hr4⟩ := h.row i _ _ _ hi
  have hs := hk1.moreG (Y := fun j => j ∈ g.ob i) fun j hj => ⟨h.own_lt hi hj, (hk2 j hj).row, (hk2 j hj).box, .inr (hr4 j hj).2.1.symm⟩
  refine ⟨g.addG fun j => j ∈ g.ob i, ?_, g.addG_le _, ⟨rfl, rfl⟩, fun j hj => .inr hj⟩
  have hr : ∀ j own fr2 d2, get ((.r i, .row false fr d.shal) :: σ) (.r j) = .row own fr2 d2 → (j = i ∧ own = false ∧ fr2 = fr ∧ d2 = d.shal) ∨ (j ≠ i ∧ get ((.r i, .dead) :: σ) (.r j) = .row own fr2 d2) := fun j own fr2 d2 hj => by
    by_cases e : j = i
    · subst e; rw [get_same] at hj; cases hj; exact .inl ⟨rfl, rfl, rfl, rfl⟩
    · rw [get_other (Loc.r_ne e)] at hj; exact .inr ⟨e, by rw [get_other (Loc.r_ne e)]; exact hj⟩
  have ht : ∀ t, get ((.r i, .row false fr d.shal) :: σ) (.t t) = get ((.r i, .dead) :: σ) (.t t) := fun t => by rw [get_other (by simp), get_other (by simp)]
  have hbx : ∀ t, get ((.r i, .row false fr d.shal) :: σ) (.b t) = get ((.r i, .dead) :: σ) (.b t) := fun t => by rw [get_other (by simp), get_other (by simp)]
  have hown' : ∀ j fr2 d2, get ((.r i, .row false fr d.shal) :: σ) (.r j) = .row true fr2 d2 → get ((.r i, .dead) :: σ) (.r j) = .row true fr2 d2 := fun j fr2 d2 hj => by
    rcases hr j _ _ _ hj with ⟨_, h, _⟩ | ⟨_, h⟩
    · cases h
    · exact h
  refine ⟨hs.chg, hs.base, hs.defs, hs.nts, fun t x hx => hs.tmp t x (by rw [← ht]; exact hx), ?_, fun b cs hb => hs.box b cs (by rw [← hbx]; exact hb), ?_, fun j hj => by rw [hbx]; exact hs.db j hj, hs.gb,
    fun j k f1 d1 f2 d2 b hjk hj hk => hs.sepR j k _ _ _ _ b hjk (hown' _ _ _ hj) (hown' _ _ _ hk), fun b c cs cs' hbc h1 h2 => hs.sepB b c cs cs' hbc (by rw [← hbx]; exact h1) (by rw [← hbx]; exact h2),
    fun j b f1 d1 cs hj hb => hs.sepRB j b _ _ cs (hown' _ _ _ hj) (by rw [← hbx]; exact hb), hs.pb, hs.ga⟩
  · intro j own fr2 d2 hj
    rcases hr j _ _ _ hj with ⟨rfl, rfl, rfl, rfl⟩ | ⟨hne, hj'⟩
    · exact ⟨hr1, ⟨hr2.1.trans (shal_eq d).2.2.symm, hr2.2.trans (shal_eq d).2.1.symm⟩, RowRep.shal (hown.row (rg_all (fun j hj => ⟨.inl hj.1, hj.2⟩) fun j hj => ⟨.inr hj, (hr4 j hj).2.2⟩) fun j hj => ⟨.inr (hkk.out j hj), (hr4 j (hkk.out j hj)).2.2⟩)⟩
    · exact hs.row j own fr2 d2 hj'
  · intro j hj
    by_cases e : j = i
    · subst e; rw [get_same]; exact ⟨by simp, (h.dr j hj).2⟩
    · rw [get_other (Loc.r_ne e)]; exact h.dr j hj
def Gm.setB (g : Gm) (id : Nat) (n : Nat) : Gm := { g with bb := fun j => if j = id then n else g.bb j, db := fun j => g.db j ∨ j = id }
theorem Gm.setB_le (g : Gm) {id : Nat} (h : ¬ g.db id) (n : Nat) : g.le (g.setB id n) :=
  ⟨fun _ _ => rfl, fun _ _ => rfl, fun _ _ => rfl, fun _ _ => rfl, fun i hi => if_neg fun e : i = id => h (by rw [← e]; exact hi), fun _ h => h, fun _ h => h, fun _ h => .inl h⟩
/-- A new box. -/
theorem Sat.newBox (h : Sat F σ a w g) {id : Nat} (hid : get σ (.b id) = .no) {cs : List Cell} {us : List Value} {ty : TypeId} {n : Nat} (hn : w.heap[n]? = some (.cells us.toArray ty (0, 0))) (hus : All2 (CellRep g F.N w) us cs)
    (hb : Priv F σ g n) : Sat F ((.b id, .box cs) :: σ) a w (g.setB id n) := by
  have hnd : ¬ g.db id := fun hd => h.db id hd hid
  have hle := g.setB_le hnd n
  have hng : ∀ j, g.G j → ¬ (fun _ : Nat => False) j := fun _ _ h => h
  have hx : ∀ j cs', get ((.b id, .box cs) :: σ) (.b j) = .box cs' → (j = id ∧ cs' = cs) ∨ (j ≠ id ∧ get σ (.b j) = .box cs') := fun j cs' hj => by
    by_cases e : j = id
    · subst e; rw [get_same] at hj; cases hj; exact .inl ⟨rfl, rfl⟩
    · rw [get_other (Loc.b_ne e)] at hj; exact .inr ⟨e, hj⟩
  have ht : ∀ t, get ((.b id, .box cs) :: σ) (.t t) = get σ (.t t) := fun t => get_other (by simp) _ _
  have hr : ∀ t, get ((.b id, .box cs) :: σ) (.r t) = get σ (.r t) := fun t => get_other (by simp) _ _
  have hbid : (g.setB id n).bb id = n := if_pos rfl
  have hbo : ∀ j, j ≠ id → (g.setB id n).bb j = g.bb j := fun j hj => if_neg hj
  refine ⟨h.chg, h.base, h.defs, h.nts, fun t x hx => (h.tmp t x (by rw [← ht]; exact hx)).chg (Chg.refl _ w) hng hle, fun i own fr d hi => h.row i own fr d (by rw [← hr]; exact hi), ?_, fun i hi => by rw [hr]; exact h.dr i hi, ?_, h.gb,
    fun i j f1 d1 f2 d2 b hij hi hj => h.sepR i j _ _ _ _ b hij (by rw [← hr]; exact hi) (by rw [← hr]; exact hj), ?_, ?_, fun j m hj => ⟨.inl (h.pb j m hj).1, (hle.bb j (h.pb j m hj).1).trans (h.pb j m hj).2⟩, h.ga⟩
  · intro b cs' hb'
    rcases hx b cs' hb' with ⟨rfl, rfl⟩ | ⟨hne, hb''⟩
    · exact ⟨.inr rfl, us, ty, by rw [hbid]; exact hn, hus.imp fun _ _ h' => h'.chg (Chg.refl _ w) hng hle, by rw [hbid]; exact hb.ng, by rw [hbid]; exact hb.base⟩
    · obtain ⟨h1, us', ty', h2, h3, h4⟩ := h.box b cs' hb''
      refine ⟨.inl h1, us', ty', by rw [hbo b hne]; exact h2, h3.imp fun _ _ h' => h'.chg (Chg.refl _ w) hng hle, ?_⟩
      rw [hbo b hne]; exact h4
  · intro j hj
    by_cases e : j = id
    · subst e; rw [get_same]; simp
    · rw [get_other (Loc.b_ne e)]; exact h.db j (hj.resolve_right e)
  · intro b c cs1 cs2 hbc h1 h2
    rcases hx b _ h1 with ⟨rfl, _⟩ | ⟨hb1, hb2⟩
    · rcases hx c _ h2 with ⟨rfl, _⟩ | ⟨hc1, hc2⟩
      · exact absurd rfl hbc
      · rw [hbid, hbo c hc1]; exact fun e => hb.box c _ hc2 e.symm
    · rw [hbo b hb1]
      rcases hx c _ h2 with ⟨rfl, _⟩ | ⟨hc1, hc2⟩
      · rw [hbid]; exact hb.box b _ hb2
      · rw [hbo c hc1]; exact h.sepB b c _ _ hbc hb2 hc2
  · intro i b f1 d1 cs1 hi h2
    rcases hx b _ h2 with ⟨rfl, _⟩ | ⟨hb1, hb2⟩
    · rw [hbid]; exact hb.row i _ _ (by rw [← hr]; exact hi)
    · rw [hbo b hb1]; exact h.sepRB i b _ _ _ (by rw [← hr]; exact hi) hb2
/-- A box with other contents. -/
theorem Sat.setBox {X : Nat → Prop} (h : Sat F σ a w g) (hc : Chg X w w') {b : Nat} {cs : List Cell} (hb : get σ (.b b) = .box cs) (hX : ∀ j, X j → j = g.bb b) {cs' : List Cell} {us : List Value} {ty : TypeId}
    (hn : w'.heap[g.bb b]? = some (.cells us.toArray ty (0, 0))) (hus : All2 (CellRep g F.N w') us cs') : Sat F ((.b b, .box cs') :: σ) a w' g := by
  obtain ⟨hb1, us0, ty0, hb2, hb3, hb4, hb5⟩ := h.box b cs hb
  have hx : ∀ j cs2, get ((.b b, .box cs') :: σ) (.b j) = .box cs2 → (j = b ∧ cs2 = cs') ∨ (j ≠ b ∧ get σ (.b j) = .box cs2) := fun j cs2 hj => by
    by_cases e : j = b
    · subst e; rw [get_same] at hj; cases hj; exact .inl ⟨rfl, rfl⟩
    · rw [get_other (Loc.b_ne e)] at hj; exact .inr ⟨e, hj⟩
  have ht : ∀ t, get ((.b b, .box cs') :: σ) (.t t) = get σ (.t t) := fun t => get_other (by simp) _ _
  have hr : ∀ t, get ((.b b, .box cs') :: σ) (.r t) = get σ (.r t) := fun t => get_other (by simp) _ _
  have hxg : ∀ j, g.G j → ¬ X j := fun j hj hx => hb4 (hX j hx ▸ hj)
  refine ⟨⟨hc.os.trans h.chg.os, hc.tape.trans h.chg.tape, hc.output.trans h.chg.output, Nat.le_trans h.chg.size hc.size, fun j hj hm => ?_⟩, h.base, h.defs, h.nts, fun t x hx => (h.tmp t x (by rw [← ht]; exact hx)).chg hc hxg g.le_refl, ?_, ?_, fun i hi => by rw [hr]; exact h.dr i hi, ?_,
    fun j hj => Nat.lt_of_lt_of_le (h.gb j hj) hc.size, fun i j f1 d1 f2 d2 b hij hi hj => h.sepR i j _ _ _ _ b hij (by rw [← hr]; exact hi) (by rw [← hr]; exact hj), ?_, ?_, h.pb, h.ga⟩
  · have hj' := Nat.lt_of_lt_of_le hj h.chg.size
    refine (hc.block j hj' fun hx => ?_).trans (h.chg.block j hj hm)
    rcases hb5 with hb | hb
    · have := h.base; have := hX j hx; omega
    · exact hm (hX j hx ▸ hb)
  · intro i own fr d hi
    have hi' : get σ (.r i) = .row own fr d := by rw [← hr]; exact hi
    obtain ⟨h1, h2, h3⟩ := h.row i own fr d hi'
    refine ⟨h1, h2, ?_⟩
    cases own with
    | true =>
      obtain ⟨⟨e, he, ho, hk⟩, hb'⟩ := h3
      have hn : ∀ j, j ∈ g.ob i → ¬ X j := fun j hj hx => h.sepRB i b fr d cs hi' hb (hX j hx ▸ hj)
      exact ⟨⟨e, he, ho.chg hc (rg_all (fun j hj => hxg j hj.1) hn) (fun j hj => hj) fun j hj => hn j (hk.out j hj), hk.chg hc hn⟩, hb'⟩
    | false => exact RowRep.chg hc (fun j hj => hxg j hj.1) (fun j hj => hj) h3
  · intro j cs2 hj
    rcases hx j cs2 hj with ⟨rfl, rfl⟩ | ⟨hne, hj'⟩
    · exact ⟨hb1, us, ty, hn, hus, hb4, hb5⟩
    · obtain ⟨h1, us', ty', h2, h3, h4⟩ := h.box j cs2 hj'
      refine ⟨h1, us', ty', ?_, h3.imp fun _ _ h' => h'.chg hc hxg g.le_refl, h4⟩
      rw [hc.block _ (Array.getElem?_eq_some_iff.1 h2).1 fun hx => h.sepB j b _ _ hne hj' hb (hX _ hx)]
      exact h2
  · intro j hj
    by_cases e : j = b
    · subst e; rw [get_same]; simp
    · rw [get_other (Loc.b_ne e)]; exact h.db j hj
  · intro c c' cs1 cs2 hcc h1 h2
    have : ∀ j cs2, get ((.b b, .box cs') :: σ) (.b j) = .box cs2 → ∃ cs3, get σ (.b j) = .box cs3 := fun j cs2 hj => by
      rcases hx j _ hj with ⟨rfl, _⟩ | ⟨_, h⟩
      · exact ⟨_, hb⟩
      · exact ⟨_, h⟩
    obtain ⟨_, h1'⟩ := this _ _ h1
    obtain ⟨_, h2'⟩ := this _ _ h2
    exact h.sepB c c' _ _ hcc h1' h2'
  · intro i c f1 d1 cs1 hi h2
    rcases hx c _ h2 with ⟨rfl, _⟩ | ⟨_, h'⟩
    · exact h.sepRB i c _ _ _ (by rw [← hr]; exact hi) hb
    · exact h.sepRB i c _ _ _ (by rw [← hr]; exact hi) h'
/-- A box is set aside. -/
theorem Sat.killBox (h : Sat F σ a w g) {b : Nat} {cs : List Cell} (hb : get σ (.b b) = .box cs) : Sat F ((.b b, .dead) :: σ) a w g ∧ Priv F ((.b b, .dead) :: σ) g (g.bb b) := by
  have hx : ∀ j cs2, get ((.b b, .dead) :: σ) (.b j) = .box cs2 → j ≠ b ∧ get σ (.b j) = .box cs2 := fun j cs2 hj => by
    by_cases e : j = b
    · subst e; rw [get_same] at hj; cases hj
    · rw [get_other (Loc.b_ne e)] at hj; exact ⟨e, hj⟩
  have ht : ∀ t, get ((.b b, .dead) :: σ) (.t t) = get σ (.t t) := fun t => get_other (by simp) _ _
  have hr : ∀ t, get ((.b b, .dead) :: σ) (.r t) = get σ (.r t) := fun t => get_other (by simp) _ _
  refine ⟨⟨h.chg, h.base, h.defs, h.nts, fun t x hx => h.tmp t x (by rw [← ht]; exact hx), fun j own fr' d' hj => h.row j own fr' d' (by rw [← hr]; exact hj), fun c cs' hb' => h.box c cs' (hx _ _ hb').2, fun j hj => by rw [hr]; exact h.dr j hj, fun j hj => ?_, h.gb,
    fun j k f1 d1 f2 d2 b hjk hj hk => h.sepR j k f1 d1 f2 d2 b hjk (by rw [← hr]; exact hj) (by rw [← hr]; exact hk), fun b c cs cs' hbc h1 h2 => h.sepB b c cs cs' hbc (hx _ _ h1).2 (hx _ _ h2).2,
    fun j b f1 d1 cs hj h2 => h.sepRB j b f1 d1 cs (by rw [← hr]; exact hj) (hx _ _ h2).2, h.pb, h.ga⟩, ?_⟩
  · by_cases e : j = b
    · subst e; rw [get_same]; simp
    · rw [get_other (Loc.b_ne e)]; exact h.db j hj
  · obtain ⟨_, us, ty, _, _, h4, h5⟩ := h.box b cs hb
    exact ⟨h4, fun j f1 d1 hj => h.sepRB j b f1 d1 cs (by rw [← hr]; exact hj) hb, fun c cs2 hc e => h.sepB c b cs2 cs (hx _ _ hc).1 (hx _ _ hc).2 hb e, h5⟩
/-- And comes back. -/
theorem Sat.reBox (h : Sat F σ a w g) {b : Nat} (hd : g.db b) (hp : Priv F σ g (g.bb b)) {cs : List Cell} {us : List Value} {ty : TypeId} (hn : w.heap[g.bb b]? = some (.cells us.toArray ty (0, 0))) (hus : All2 (CellRep g F.N w) us cs) : Sat F ((.b b, .box cs) :: σ) a w g := by
  have hx : ∀ j cs2, get ((.b b, .box cs) :: σ) (.b j) = .box cs2 → (j = b ∧ cs2 = cs) ∨ (j ≠ b ∧ get σ (.b j) = .box cs2) := fun j cs2 hj => by
    by_cases e : j = b
    · subst e; rw [get_same] at hj; cases hj; exact .inl ⟨rfl, rfl⟩
    · rw [get_other (Loc.b_ne e)] at hj; exact .inr ⟨e, hj⟩
  have ht : ∀ t, get ((.b b, .box cs) :: σ) (.t t) = get σ (.t t) := fun t => get_other (by simp) _ _
  have hr : ∀ t, get ((.b b, .box cs) :: σ) (.r t) = get σ (.r t) := fun t => get_other (by simp) _ _
  refine ⟨h.chg, h.base, h.defs, h.nts, fun t x hx => h.tmp t x (by rw [← ht]; exact hx), fun j own fr' d' hj => h.row j own fr' d' (by rw [← hr]; exact hj), fun c cs' hc => ?_, fun j hj => by rw [hr]; exact h.dr j hj, fun j hj => ?_, h.gb,
    fun j k f1 d1 f2 d2 b hjk hj hk => h.sepR j k f1 d1 f2 d2 b hjk (by rw [← hr]; exact hj) (by rw [← hr]; exact hk), fun c c' cs1 cs2 hcc h1 h2 => ?_, fun j c f1 d1 cs1 hj h2 => ?_, h.pb, h.ga⟩
  · rcases hx c cs' hc with ⟨rfl, rfl⟩ | ⟨_, hc'⟩
    · exact ⟨hd, us, ty, hn, hus, hp.ng, hp.base⟩
    · exact h.box c cs' hc'
  · by_cases e : j = b
    · subst e; rw [get_same]; simp
    · rw [get_other (Loc.b_ne e)]; exact h.db j hj
  · rcases hx c _ h1 with ⟨rfl, _⟩ | ⟨_, h1'⟩
    · rcases hx c' _ h2 with ⟨rfl, _⟩ | ⟨_, h2'⟩
      · exact absurd rfl hcc
      · exact fun e => hp.box c' _ h2' e.symm
    · rcases hx c' _ h2 with ⟨rfl, _⟩ | ⟨_, h2'⟩
      · exact hp.box c _ h1'
      · exact h.sepB c c' _ _ hcc h1' h2'
  · rcases hx c _ h2 with ⟨rfl, _⟩ | ⟨_, h2'⟩
    · exact hp.row j f1 d1 (by rw [← hr]; exact hj)
    · exact h.sepRB j c f1 d1 _ (by rw [← hr]; exact hj) h2'
/-- A slot. -/
theorem Sat.dst (h : Sat F σ a w g) {dst : Option Tmp} (hd : dstOk F.nt dst = true) {v : Value} {x : AV} (hv : AVRep g F.N w v x) : Sat F ((wr dst x).foldl (fun σ w => w :: σ) σ) (a.put dst v) w g := by
  cases dst with
  | none => exact h
  | some d =>
    have hlt : d < a.tmps.size := by
      rw [h.nts]
      simpa [dstOk] using hd
    refine ⟨h.chg, h.base, h.defs, by simp [Act.put, h.nts], ?_, fun i own fr d' hi => h.row i own fr d' (by rw [← hi]; exact (get_other (by simp) _ _).symm), fun b cs hb => h.box b cs (by rw [← hb]; exact (get_other (by simp) _ _).symm),
      fun i hi => by show get ((.t d, .av x) :: σ) (.r i) ≠ .no ∧ _; rw [get_other (by simp)]; exact h.dr i hi, fun i hi => by show get ((.t d, .av x) :: σ) (.b i) ≠ .no; rw [get_other (by simp)]; exact h.db i hi, h.gb,
      fun i j f1 d1 f2 d2 b hij hi hj => h.sepR i j _ _ _ _ b hij (by rw [← hi]; exact (get_other (by simp) _ _).symm) (by rw [← hj]; exact (get_other (by simp) _ _).symm),
      fun b c cs cs' hbc h1 h2 => h.sepB b c _ _ hbc (by rw [← h1]; exact (get_other (by simp) _ _).symm) (by rw [← h2]; exact (get_other (by simp) _ _).symm),
      fun i b f1 d1 cs hi h2 => h.sepRB i b _ _ _ (by rw [← hi]; exact (get_other (by simp) _ _).symm) (by rw [← h2]; exact (get_other (by simp) _ _).symm), h.pb, h.ga⟩
    intro t y ht
    have ht' : get ((.t d, .av x) :: σ) (.t t) = .av y := ht
    by_cases e : t = d
    · subst e
      rw [get_same] at ht'
      cases ht'
      have : (a.put (some t) v).tmps.getD t undef = v := by simp [Act.put, hlt]
      rw [this]
      exact hv
    · rw [get_other (Loc.t_ne e)] at ht'
      have : (a.put (some d) v).tmps.getD t undef = a.tmps.getD t undef := by
        simp [Act.put, Array.getElem?_setIfInBounds_ne (Ne.symm e)]
      rw [this]
      exact h.tmp t y ht'
end
end Vx
