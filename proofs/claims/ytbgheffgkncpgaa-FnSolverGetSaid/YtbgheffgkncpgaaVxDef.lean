/- An executor of the model's code over abstract states: rows with owners, boxes, slots. Plain definitions. Conditions: those that each theorem states. -/
import GoSem.Step
import Derived.Calls
import Derived.Laws.AppendOwn
set_option linter.unusedVariables false
set_option linter.unusedSimpArgs false
namespace Vx
open Go
/-! Whole numbers are compared so that the kernel stands still soon, where they are not known. -/
def leB : Int → Int → Bool
  | .ofNat m, .ofNat n => Nat.ble m n
  | .negSucc m, .negSucc n => Nat.ble n m
  | .negSucc _, .ofNat _ => true
  | .ofNat _, .negSucc _ => false
theorem leB_iff {a b : Int} : leB a b = true ↔ a ≤ b := by
  cases a <;> cases b <;> simp [leB, Nat.ble_eq] <;> omega
instance (priority := 100000) decLeK (a b : Int) : Decidable (a ≤ b) := decidable_of_iff (leB a b = true) leB_iff
instance (priority := 100000) decLtK (a b : Int) : Decidable (a < b) := decidable_of_iff (leB (a + 1) b = true) leB_iff

/-- Kinds of rows: whole numbers; strings; equations (a row of numbers and a string). -/
inductive RK where
  | ints (k : IntKind) | strs | eqs
/-- What a slice holds. -/
inductive Row where
  | ints (k : IntKind) (xs : List Int)
  | strs (xs : List ByteArray)
  | eqs (xs : List (List Int × ByteArray))
/-- A cell of an element of a row. -/
inductive DC where
  | sc (v : Value)
  | ir (xs : List Int)
/-- A cell of a slot or a box. -/
inductive Cell where
  | sc (v : Value)
  | ro (fr : Bool) (d : Row)
  | ref (i : Nat)
inductive V1 where
  | cell (c : Cell)
  | agg (cs : List Cell)
inductive AV where
  | v (x : V1)
  | tup (vs : List V1)
  | bx (b off : Nat)
  | pe (fr : Bool) (cs : List DC)
  | pr (i e off : Nat)
  | vw (i lo hi : Nat)
inductive Loc where
  | t (n : Nat) | r (n : Nat) | b (n : Nat)
  deriving DecidableEq
inductive Ct where
  | no
  | dead
  | av (x : AV)
  | row (own fr : Bool) (d : Row)
  | box (cs : List Cell)
/-- Data across a call. -/
inductive SC where
  | sc (v : Value)
  | row (d : Row)
inductive DA where
  | c (x : SC)
  | agg (xs : List SC)
  | bx (xs : List SC)
/-- Rows of the results: some of them the caller's own from then on, the others new; all of them new; what may be shared. -/
inductive RF where
  | own | new | any
inductive Md where
  | mix (os : List RF) | fresh | alias
  /-- Rows of one's own are handed over and a new one is handed back; they are written where they lie. -/
  | take | write
structure Sp where
  pre : Bool
  res : List DA
  outs : List (List SC)
  mode : Md

def Loc.beq : Loc → Loc → Bool
  | .t n, .t m => Nat.beq n m
  | .r n, .r m => Nat.beq n m
  | .b n, .b m => Nat.beq n m
  | _, _ => false
theorem Loc.beq_iff {l m : Loc} : l.beq m = true ↔ l = m := by
  cases l <;> cases m <;> simp [Loc.beq, Nat.beq_eq]
abbrev St := List (Loc × Ct)
def get : St → Loc → Ct
  | [], _ => .no
  | (m, c) :: σ, l => match l.beq m with
    | true => c
    | false => get σ l

def Row.len : Row → Nat
  | .ints _ xs => xs.length
  | .strs xs => xs.length
  | .eqs xs => xs.length
def Row.wd : Row → Nat
  | .ints _ _ => 1
  | .strs _ => 1
  | .eqs _ => 2
def Row.kind : Row → RK
  | .ints k _ => .ints k
  | .strs _ => .strs
  | .eqs _ => .eqs
def Row.nil : RK → Row
  | .ints k => .ints k []
  | .strs => .strs []
  | .eqs => .eqs []
def eqD : List Int × ByteArray := ([], ⟨#[]⟩)
/-- The cells of element i. -/
def Row.cells : Row → Nat → List DC
  | .ints k xs, i => [.sc (.int k (xs.getD i 0))]
  | .strs xs, i => [.sc (.string (xs.getD i ⟨#[]⟩))]
  | .eqs xs, i => [.ir (xs.getD i eqD).1, .sc (.string (xs.getD i eqD).2)]
def Row.flat : Row → List DC
  | .ints k xs => xs.map fun x => .sc (.int k x)
  | .strs xs => xs.map fun x => .sc (.string x)
  | .eqs xs => xs.flatMap fun x => [.ir x.1, .sc (.string x.2)]
def IntKind.eqb : IntKind → IntKind → Bool
  | .i8, .i8 | .i16, .i16 | .i32, .i32 | .i64, .i64 | .u8, .u8 | .u16, .u16 | .u32, .u32 | .u64, .u64 => true
  | _, _ => false
theorem IntKind.eqb_iff {k l : IntKind} : IntKind.eqb k l = true ↔ k = l := by
  cases k <;> cases l <;> simp [IntKind.eqb]
def Row.app : Row → Row → Option Row
  | .ints k xs, .ints l ys => match IntKind.eqb k l with
    | true => some (.ints k (xs ++ ys))
    | false => none
  | .strs xs, .strs ys => some (.strs (xs ++ ys))
  | .eqs xs, .eqs ys => some (.eqs (xs ++ ys))
  | _, _ => none
def Row.sub : Row → Nat → Nat → Row
  | .ints k xs, lo, hi => .ints k ((xs.take hi).drop lo)
  | .strs xs, lo, hi => .strs ((xs.take hi).drop lo)
  | .eqs xs, lo, hi => .eqs ((xs.take hi).drop lo)
def RK.eqb : RK → RK → Bool
  | .ints k, .ints l => IntKind.eqb k l
  | .strs, .strs => true
  | .eqs, .eqs => true
  | _, _ => false
theorem RK.eqb_iff {k l : RK} : RK.eqb k l = true ↔ k = l := by
  cases k <;> cases l <;> simp [RK.eqb, IntKind.eqb_iff]

/-! ### Reading what is there, and telling what to write -/
inductive Rd (α : Type) where
  | ret (x : α)
  | fail
  | ask (l : Loc) (k : Ct → Rd α)
  | br (c : Bool) (t e : Rd α)
def Rd.bind {α β : Type} : Rd α → (α → Rd β) → Rd β
  | .ret x, f => f x
  | .fail, _ => .fail
  | .ask l k, f => .ask l fun c => (k c).bind f
  | .br c t e, f => .br c (t.bind f) (e.bind f)
instance : Monad Rd where
  pure := Rd.ret
  bind := Rd.bind
def Rd.run {α : Type} : Rd α → (Loc → Ct) → Option α
  | .ret x, _ => some x
  | .fail, _ => none
  | .ask l k, g => (k (g l)).run g
  | .br c t e, g => match c with
    | true => t.run g
    | false => e.run g
def Rd.reads {α : Type} : Rd α → (Loc → Ct) → List Loc
  | .ret _, _ => []
  | .fail, _ => []
  | .ask l k, g => l :: (k (g l)).reads g
  | .br c t e, g => match c with
    | true => t.reads g
    | false => e.reads g
def lookupK {R : Type} : St → Loc → (Ct → Option R) → Option R
  | [], _, k => k .no
  | (m, c) :: σ, l, k => match l.beq m with
    | true => k c
    | false => lookupK σ l k
def Rd.runK {α R : Type} : Rd α → St → List Loc → (α → List Loc → Option R) → Option R
  | .ret x, _, rs, k => k x rs
  | .fail, _, _, _ => none
  | .ask l f, σ, rs, k => lookupK σ l fun c => (f c).runK σ (l :: rs) k
  | .br c t e, σ, rs, k => match c with
    | true => t.runK σ rs k
    | false => e.runK σ rs k
def Rd.test (c : Bool) {α : Type} (m : Rd α) : Rd α := .br c m .fail

/-! ### What is known of the types -/
inductive ZC where
  | int (k : IntKind) | bool | str | nil (k : RK)
inductive TK where
  | int (k : IntKind) | bool | str | slice (e : TypeId) | struct (fs : List (Nat × Nat))
structure TI where
  k : TK
  size : Nat
  bytes : Nat
  zc : List ZC
structure Cx where
  ti : List (TypeId × TI)
  /-- The element types of rows of one's own. -/
  ek : List (TypeId × RK)
  Φ : FuncId → List DA → Option Sp
def alook {β : Type} : List (Nat × β) → Nat → Option β
  | [], _ => none
  | (m, x) :: l, n => match Nat.beq n m with
    | true => some x
    | false => alook l n
def Cx.tio (cx : Cx) (t : TypeId) : Rd TI := match alook cx.ti t with
  | some x => .ret x
  | none => .fail
def Cx.eko (cx : Cx) (t : TypeId) : Rd RK := match alook cx.ek t with
  | some x => .ret x
  | none => .fail
/-- The element type of a row's kind. -/
def ekOf : List (TypeId × RK) → RK → Option TypeId
  | [], _ => none
  | (e, k) :: l, x => match RK.eqb k x with
    | true => some e
    | false => ekOf l x

/-! ### The operations -/
def avOf (t : Tmp) : Rd AV := .ask (.t t) fun
  | .av x => .ret x
  | _ => .fail
def opv : Operand → Rd AV
  | .tmp t => avOf t
  | .const v => match v with
    | .bool _ => .ret (.v (.cell (.sc v)))
    | .int _ _ => .ret (.v (.cell (.sc v)))
    | .string _ => .ret (.v (.cell (.sc v)))
    | .pointer none => .ret (.v (.cell (.sc v)))
    | _ => .fail
  | _ => .fail
def scal (x : Operand) : Rd Value := (opv x).bind fun
  | .v (.cell (.sc v)) => .ret v
  | _ => .fail
def binR (op : BinOp) (x y : Value) : Rd Value :=
  match x, y with
  | .int k a, .int l b => match op with
    | .shl => .test (decide (0 ≤ b)) (.ret (.int k (k.wrap (a * 2 ^ min b.toNat k.bits))))
    | .shr => .test (decide (0 ≤ b)) (.ret (.int k (a.fdiv (2 ^ min b.toNat k.bits))))
    | .add => .test (IntKind.eqb k l) (.ret (.int k (k.wrap (a + b))))
    | .sub => .test (IntKind.eqb k l) (.ret (.int k (k.wrap (a - b))))
    | .mul => .test (IntKind.eqb k l) (.ret (.int k (k.wrap (a * b))))
    | .quo => .test (IntKind.eqb k l) (.test (!decide (b = 0)) (.ret (.int k (k.wrap (a.tdiv b)))))
    | .rem => .test (IntKind.eqb k l) (.test (!decide (b = 0)) (.ret (.int k (a.tmod b))))
    | .and => .test (IntKind.eqb k l) (.ret (.int k (k.wrap (BitVec.ofInt k.bits a &&& BitVec.ofInt k.bits b).toNat)))
    | .or => .test (IntKind.eqb k l) (.ret (.int k (k.wrap (BitVec.ofInt k.bits a ||| BitVec.ofInt k.bits b).toNat)))
    | .xor => .test (IntKind.eqb k l) (.ret (.int k (k.wrap (BitVec.ofInt k.bits a ^^^ BitVec.ofInt k.bits b).toNat)))
    | .eql => .test (IntKind.eqb k l) (.ret (.bool (a == b)))
    | .neq => .test (IntKind.eqb k l) (.ret (.bool (a != b)))
    | .lss => .test (IntKind.eqb k l) (.ret (.bool (decide (a < b))))
    | .leq => .test (IntKind.eqb k l) (.ret (.bool (decide (a ≤ b))))
    | .gtr => .test (IntKind.eqb k l) (.ret (.bool (decide (a > b))))
    | .geq => .test (IntKind.eqb k l) (.ret (.bool (decide (a ≥ b))))
    | _ => .fail
  | .string a, .string b => match op with
    | .add => .test (decide (a.size + b.size < 1099511627776)) (.ret (.string (a ++ b)))
    | .eql => .ret (.bool (a.toList == b.toList))
    | .neq => .ret (.bool (!(a.toList == b.toList)))
    | _ => .fail
  | _, _ => .fail
/-- Two Bools, alike or not. -/
def boolR (op : BinOp) (x y : Value) : Option (Rd Value) := match x, y with
  | .bool a, .bool b => some (match op with
    | .eql => .ret (.bool (a == b))
    | .neq => .ret (.bool (!(a == b)))
    | _ => .fail)
  | _, _ => none
def isBo : TK → Bool
  | .bool => true
  | _ => false
def unR (op : UnOp) (x : Value) : Rd Value :=
  match op, x with
  | .not, .bool b => .ret (.bool (!b))
  | _, _ => .fail
/-- A row that is looked at: its data, whether it is fresh. -/
def rowR : AV → Rd (Row × Bool)
  | .v (.cell (.ro fr d)) => .ret (d, fr)
  | .v (.cell (.ref i)) => .ask (.r i) fun
    | .row _ fr d => .ret (d, fr)
    | _ => .fail
  | .vw i lo hi => .ask (.r i) fun
    | .row _ fr d => .ret (d.sub lo hi, fr)
    | _ => .fail
  | _ => .fail
def bt (s : ByteArray) (i : Int) : Int := ((s.data.toList.getD i.toNat 0).toNat : Int)
def strOf (xs : List Int) : ByteArray := ⟨(xs.map fun n => UInt8.ofNat n.toNat).toArray⟩
def cellsOf : AV → Rd (List Cell)
  | .v (.cell c) => match c with
    | .sc (.int k n) => .ret [.sc (.int k n)]
    | .sc (.bool b) => .ret [.sc (.bool b)]
    | .sc (.string s) => .ret [.sc (.string s)]
    | .ro fr d => .ret [.ro fr d]
    | .ref i => .ask (.r i) fun
      | .row _ _ _ => .ret [.ref i]
      | _ => .fail
    | _ => .fail
  | .v (.agg cs) => .ret cs
  | _ => .fail
def newLoc {α : Type} (l : Loc) (m : Rd α) : Rd α := .ask l fun
  | .no => m
  | _ => .fail
/-- The cells of a zero value: rows of one's own for its nil slices. -/
def zeroR : List ZC → Nat → Rd (List Cell × List (Loc × Ct))
  | [], _ => .ret ([], [])
  | z :: zs, id => (zeroR zs (id + 1)).bind fun p => match z with
    | .int k => .ret (.sc (.int k 0) :: p.1, p.2)
    | .bool => .ret (.sc (.bool false) :: p.1, p.2)
    | .str => .ret (.sc (.string ⟨#[]⟩) :: p.1, p.2)
    | .nil k => newLoc (.r id) (.ret (.ref id :: p.1, (.r id, .row true true (Row.nil k)) :: p.2))
def replAt {α : Type} (cs : List α) (off : Nat) (us : List α) : List α := cs.take off ++ us ++ cs.drop (off + us.length)
def fitR {α : Type} (n off : Nat) (cs : List α) : Bool := Nat.ble (off + n) cs.length
/-- The parts of a struct, put into its cells. -/
def fillR (fs : List (Nat × Nat)) : List (Nat × Operand) → List Cell → Rd (List Cell)
  | [], cs => .ret cs
  | (i, x) :: ps, cs => match fs[i]? with
    | none => .fail
    | some (off, sz) => (opv x).bind fun v => (cellsOf v).bind fun us =>
      .test (Nat.beq us.length sz && fitR sz off cs) (fillR fs ps (replAt cs off us))
/-- A cell that holds a row of numbers, to be put into an element: the numbers, freshness, the row that is to be frozen. -/
def innerR : Cell → Rd (List Int × Bool × List (Loc × Ct))
  | .ro fr (.ints .i64 xs) => .ret (xs, fr, [])
  | .ref i => .ask (.r i) fun
    | .row _ fr (.ints .i64 xs) => .ret (xs, fr, [(.r i, .row false fr (.ints .i64 xs))])
    | _ => .fail
  | _ => .fail
def eltsI (k : IntKind) : List Operand → Rd (List Int)
  | [] => .ret []
  | x :: l => (scal x).bind fun
    | .int k' a => .test (IntKind.eqb k k') ((eltsI k l).bind fun r => .ret (a :: r))
    | _ => .fail
def eltsS : List Operand → Rd (List ByteArray)
  | [] => .ret []
  | x :: l => (scal x).bind fun
    | .string a => (eltsS l).bind fun r => .ret (a :: r)
    | _ => .fail
def eltsE : List Operand → Rd (List (List Int × ByteArray) × Bool × List (Loc × Ct))
  | [] => .ret ([], true, [])
  | [x] => (opv x).bind fun
    | .v (.agg [c, .sc (.string s)]) => (innerR c).bind fun p => .ret ([(p.1, s)], p.2.1, p.2.2)
    | _ => .fail
  | _ => .fail
def idxOk : Nat → List (Nat × Operand) → Bool
  | _, [] => true
  | n, (i, _) :: l => Nat.beq i n && idxOk (n + 1) l
def eltsR (k : RK) (l : List Operand) : Rd (Row × Bool × List (Loc × Ct)) :=
  match k with
  | .ints k => (eltsI k l).bind fun xs => .ret (.ints k xs, true, [])
  | .strs => (eltsS l).bind fun xs => .ret (.strs xs, true, [])
  | .eqs => (eltsE l).bind fun q => .ret (.eqs q.1, q.2.1, q.2.2)
def asInt : AV → Rd Int
  | .v (.cell (.sc (.int _ n))) => .ret n
  | _ => .fail
def dcCell (fr : Bool) : DC → Cell
  | .sc v => .sc v
  | .ir xs => .ro fr (.ints .i64 xs)
def loadCs (isAgg : Bool) (cs : List Cell) : Rd AV :=
  match isAgg, cs with
  | true, cs => .ret (.v (.agg cs))
  | false, [c] => .ret (.v (.cell c))
  | _, _ => .fail
def isSt : TK → Bool
  | .struct _ => true
  | _ => false
def loadR (ti : TI) (isAgg : Bool) : AV → Rd AV
  | .bx b off => .ask (.b b) fun
    | .box cs => .test (fitR ti.size off cs) (loadCs isAgg ((cs.drop off).take ti.size))
    | _ => .fail
  | .pe fr cs => .test (fitR ti.size 0 cs) (loadCs isAgg ((cs.take ti.size).map (dcCell fr)))
  | .pr i e off => .ask (.r i) fun
    | .row _ fr d => .test (fitR ti.size off (d.cells e)) (loadCs isAgg ((((d.cells e).drop off).take ti.size).map (dcCell fr)))
    | _ => .fail
  | _ => .fail
/-- Element e of a row, turned at cell 'off'. -/
def setR (d : Row) (e off : Nat) (cs : List Cell) : Rd (Row × Bool × List (Loc × Ct)) :=
  match d, off, cs with
  | .ints k xs, 0, [.sc (.int k' n)] => .test (IntKind.eqb k k') (.ret (.ints k (xs.set e n), true, []))
  | .strs xs, 0, [.sc (.string s)] => .ret (.strs (xs.set e s), true, [])
  | .eqs xs, 0, [c] => (innerR c).bind fun p => .ret (.eqs (xs.set e (p.1, (xs.getD e eqD).2)), p.2.1, p.2.2)
  | .eqs xs, 1, [.sc (.string s)] => .ret (.eqs (xs.set e ((xs.getD e eqD).1, s)), true, [])
  | .eqs xs, 0, [c, .sc (.string s)] => (innerR c).bind fun p => .ret (.eqs (xs.set e (p.1, s)), p.2.1, p.2.2)
  | _, _, _ => .fail
def oneC : Cell → Bool
  | .sc (.int _ _) => true
  | .sc (.bool _) => true
  | .sc (.string _) => true
  | .sc _ => false
  | _ => true
def storeR (ti : TI) (p : AV) (us : List Cell) : Rd (List (Loc × Ct)) :=
  match p with
  | .bx b off => .ask (.b b) fun
    | .box cs => .test (Nat.beq us.length ti.size && (fitR ti.size off cs && us.all oneC)) (.ret [(.b b, .box (replAt cs off us))])
    | _ => .fail
  | .pr i e off => .ask (.r i) fun
    | .row true fr d => .test (Nat.beq us.length ti.size) ((setR d e off us).bind fun q => .ret (q.2.2 ++ [(.r i, .row true (fr && q.2.1) q.1)]))
    | _ => .fail
  | _ => .fail
def fieldR (ti : TI) (f : Nat) : AV → Rd AV
  | .bx b off => match ti.k with
    | .struct fs => match fs[f]? with
      | some (o, s) => .test (Nat.blt 0 s) (.ret (.bx b (off + o)))
      | none => .fail
    | _ => .fail
  | .pe fr cs => match ti.k with
    | .struct fs => match fs[f]? with
      | some (o, s) => .test (Nat.blt 0 s) (.ret (.pe fr (cs.drop o)))
      | none => .fail
    | _ => .fail
  | .pr i e off => match ti.k with
    | .struct fs => match fs[f]? with
      | some (o, s) => .test (Nat.blt 0 s) (.ret (.pr i e (off + o)))
      | none => .fail
    | _ => .fail
  | _ => .fail
def inR {α : Type} (i : Int) (n : Nat) (m : Rd α) : Rd α := .test (decide (0 ≤ i)) (.test (decide (i < (n : Int))) m)
def indexAddrR (sz : Nat) (x : AV) (i : Int) : Rd AV :=
  match x with
  | .v (.cell (.ro fr d)) => .test (Nat.beq sz d.wd) (inR i d.len (.ret (.pe fr (d.cells i.toNat))))
  | .v (.cell (.ref r)) => .ask (.r r) fun
    | .row _ _ d => .test (Nat.beq sz d.wd) (inR i d.len (.ret (.pr r i.toNat 0)))
    | _ => .fail
  | .vw r lo hi => .ask (.r r) fun
    | .row _ _ d => .test (Nat.beq sz d.wd) (inR i (hi - lo) (.ret (.pr r (lo + i.toNat) 0)))
    | _ => .fail
  | _ => .fail
def boundR (x : Option Operand) (dft : Int) : Rd Int :=
  match x with
  | none => .ret dft
  | some x => (opv x).bind asInt
def sliceS (s : ByteArray) (lo hi : Option Operand) : Rd AV :=
  (boundR lo 0).bind fun l => (boundR hi s.size).bind fun h =>
    .test (decide (0 ≤ l)) (.test (decide (l ≤ h)) (.test (decide (h ≤ (s.size : Int))) (.ret (.v (.cell (.sc (.string (s.extract l.toNat h.toNat))))))))
def sliceR (sz : Nat) (x : AV) (lo hi : Option Operand) : Rd AV :=
  match x with
  | .v (.cell (.ro fr d)) => (boundR lo 0).bind fun l => (boundR hi d.len).bind fun h => .test (Nat.beq sz d.wd) <|
    .test (decide (0 ≤ l)) (.test (decide (l ≤ h)) (.test (decide (h ≤ (d.len : Int))) (.ret (.v (.cell (.ro fr (d.sub l.toNat h.toNat)))))))
  | .v (.cell (.ref i)) => .ask (.r i) fun
    | .row _ _ d => (boundR lo 0).bind fun l => (boundR hi d.len).bind fun h => .test (Nat.beq sz d.wd) <|
      .test (decide (0 ≤ l)) (.test (decide (l ≤ h)) (.test (decide (h ≤ (d.len : Int))) (.ret (.vw i l.toNat h.toNat))))
    | _ => .fail
  | _ => .fail
def rkOfElem (cx : Cx) (t : TypeId) : Rd (TypeId × RK) := (cx.tio t).bind fun ti => match ti.k with
  | .slice e => (cx.eko e).bind fun k => .ret (e, k)
  | _ => .fail
def two40 : Nat := 1099511627776
def wr (dst : Option Tmp) (x : AV) : List (Loc × Ct) := match dst with
  | some d => [(.t d, .av x)]
  | none => []
/-! calls -/
/-- A cell as data; the rows of one's own that are lent. -/
def cellSC : Cell → Rd (SC × List Nat)
  | .sc v => .ret (.sc v, [])
  | .ro _ d => .ret (.row d, [])
  | .ref i => .ask (.r i) fun
    | .row own _ d => match own with
      | true => .ret (.row d, [i])
      | false => .ret (.row d, [])
    | _ => .fail
def cellsSC : List Cell → Rd (List SC × List Nat)
  | [] => .ret ([], [])
  | c :: cs => (cellSC c).bind fun p => (cellsSC cs).bind fun q => .ret (p.1 :: q.1, p.2 ++ q.2)
def argR : AV → Rd (DA × List Nat × List Nat)
  | .v (.cell c) => (cellSC c).bind fun p => .ret (.c p.1, p.2, [])
  | .v (.agg cs) => (cellsSC cs).bind fun p => .ret (.agg p.1, p.2, [])
  | .vw i lo hi => .ask (.r i) fun
    | .row own _ d => match own with
      | true => .ret (.c (.row (d.sub lo hi)), [i], [])
      | false => .ret (.c (.row (d.sub lo hi)), [], [])
    | _ => .fail
  | .bx b 0 => .ask (.b b) fun
    | .box cs => (cellsSC cs).bind fun p => .ret (.bx p.1, p.2, [b])
    | _ => .fail
  | _ => .fail
def argsR : List Operand → Rd (List DA × List Nat × List Nat)
  | [] => .ret ([], [], [])
  | x :: l => (opv x).bind fun v => (argR v).bind fun p => (argsR l).bind fun q => .ret (p.1 :: q.1, p.2.1 ++ q.2.1, p.2.2 ++ q.2.2)
def scCell (fr : Bool) : SC → Cell
  | .sc v => .sc v
  | .row d => .ro fr d
def resV1 (fr : Bool) : DA → Rd V1
  | .c x => .ret (.cell (scCell fr x))
  | .agg xs => .ret (.agg (xs.map (scCell fr)))
  | .bx _ => .fail
def resV1s (fr : Bool) : List DA → Rd (List V1)
  | [] => .ret []
  | x :: xs => (resV1 fr x).bind fun p => (resV1s fr xs).bind fun q => .ret (p :: q)
def resN (fr : Bool) (xs : List DA) : Rd (AV × List (Loc × Ct)) := (resV1s fr xs).bind fun p => match p with
  | [x] => .ret (.v x, [])
  | vs => .ret (.tup vs, [])
def mixCs : List SC → List RF → Nat → Rd (List Cell × List (Loc × Ct) × List RF × Nat)
  | [], os, id => .ret ([], [], os, id)
  | .sc v :: xs, os, id => (mixCs xs os id).bind fun p => .ret (.sc v :: p.1, p.2)
  | .row d :: xs, .new :: os, id => (mixCs xs os id).bind fun p => .ret (.ro true d :: p.1, p.2)
  | .row d :: xs, .any :: os, id => (mixCs xs os id).bind fun p => .ret (.ro false d :: p.1, p.2)
  | .row d :: xs, .own :: os, id => newLoc (.r id) ((mixCs xs os (id + 1)).bind fun p => .ret (.ref id :: p.1, (.r id, .row true true d) :: p.2.1, p.2.2))
  | .row _ :: _, [], _ => .fail
def mixVs : List DA → List RF → Nat → Rd (List V1 × List (Loc × Ct))
  | [], _, _ => .ret ([], [])
  | .c x :: l, os, id => (mixCs [x] os id).bind fun p => match p.1 with
    | [c] => (mixVs l p.2.2.1 p.2.2.2).bind fun q => .ret (.cell c :: q.1, p.2.1 ++ q.2)
    | _ => .fail
  | .agg xs :: l, os, id => (mixCs xs os id).bind fun p => (mixVs l p.2.2.1 p.2.2.2).bind fun q => .ret (.agg p.1 :: q.1, p.2.1 ++ q.2)
  | .bx _ :: _, _, _ => .fail
def resR (m : Md) (id : Nat) (xs : List DA) : Rd (AV × List (Loc × Ct)) :=
  match m, xs with
  | .mix os, xs => (mixVs xs os id).bind fun p => match p.1 with
    | [x] => .ret (.v x, p.2)
    | vs => .ret (.tup vs, p.2)
  | .fresh, [.bx cs] => newLoc (.b id) (.ret (.bx id 0, [(.b id, .box (cs.map (scCell false)))]))
  | .alias, [.bx cs] => newLoc (.b id) (.ret (.bx id 0, [(.b id, .box (cs.map (scCell false)))]))
  | .fresh, xs => resN true xs
  | .alias, xs => resN false xs
  | _, _ => .fail
def outsW : List Nat → List (List SC) → Rd (List (Loc × Ct))
  | [], [] => .ret []
  | [b], [cs] => .ret [(.b b, .box (cs.map (scCell false)))]
  | _, _ => .fail
def freezeW : List Nat → Rd (List (Loc × Ct))
  | [] => .ret []
  | i :: l => .ask (.r i) fun
    | .row _ fr d => (freezeW l).bind fun r => .ret ((.r i, .row false fr d) :: r)
    | _ => .fail
def nodupB : List Nat → Bool
  | [] => true
  | n :: l => !(l.any (Nat.beq n)) && nodupB l
def hasBx : List DA → Bool
  | [.bx _] => true
  | _ => false
def hasAny : List RF → Bool
  | [] => false
  | .any :: _ => true
  | _ :: os => hasAny os
def isAlias : Md → Bool
  | .alias => true
  | .fresh => false
  | .mix os => hasAny os
  | .take => false
  | .write => false
def isGive : Md → Bool
  | .take => true
  | .write => true
  | _ => false
/-- Rows that are handed over: their numbers; are all of them new? -/
def giveC : Cell → Rd (List Nat × Bool)
  | .sc _ => .ret ([], true)
  | .ref i => .ask (.r i) fun
    | .row true fr _ => .ret ([i], fr)
    | _ => .fail
  | _ => .fail
def giveCs : List Cell → Rd (List Nat × Bool)
  | [] => .ret ([], true)
  | c :: cs => (giveC c).bind fun p => (giveCs cs).bind fun q => .ret (p.1 ++ q.1, p.2 && q.2)
def giveA : AV → Rd (List Nat × Bool)
  | .v (.cell c) => giveC c
  | .v (.agg cs) => giveCs cs
  | _ => .fail
def givesR : List Operand → Rd (List Nat × Bool)
  | [] => .ret ([], true)
  | x :: l => (opv x).bind fun v => (giveA v).bind fun p => (givesR l).bind fun q => .ret (p.1 ++ q.1, p.2 && q.2)
def killW (is : List Nat) : List (Loc × Ct) := is.map fun i => (.r i, .dead)
def writeW (fr : Bool) : List Nat → List SC → Rd (List (Loc × Ct))
  | [], [] => .ret []
  | i :: is, .row d :: ds => .ask (.r i) fun
    | .row true _ d0 => .test (RK.eqb d.kind d0.kind && Nat.beq d.len d0.len) ((writeW fr is ds).bind fun r => .ret ((.r i, .row true fr d) :: r))
    | _ => .fail
  | _, _ => .fail
def allSc : List DA → Bool
  | [] => true
  | .c (.sc _) :: l => allSc l
  | _ => false
def giveR (id : Nat) (dst : Option Tmp) (sp : Sp) (args : List Operand) : Rd (List (Loc × Ct)) :=
  (givesR args).bind fun p => .test (nodupB p.1) (match sp.mode, sp.res, sp.outs with
    | .take, [.c (.row d)], [] => newLoc (.r id) (.ret (killW p.1 ++ ((.r id, .row true p.2 d) :: wr dst (.v (.cell (.ref id))))))
    | .write, res, [ds] => (writeW p.2 p.1 ds).bind fun ws => (resN true res).bind fun r => .test (allSc res) (.ret (killW p.1 ++ (ws ++ (r.2 ++ wr dst r.1))))
    | _, _, _ => .fail)
def callR (cx : Cx) (id : Nat) (dst : Option Tmp) (f : FuncId) (args : List Operand) : Rd (List (Loc × Ct)) :=
  (argsR args).bind fun p => match cx.Φ f p.1 with
  | none => .fail
  | some sp => .test sp.pre (match isGive sp.mode with
    | true => giveR id dst sp args
    | false => (match isAlias sp.mode || hasBx sp.res || !p.2.2.isEmpty with
      | true => freezeW p.2.1
      | false => .ret []).bind fun fz => ((outsW p.2.2 sp.outs).bind fun os => (resR sp.mode id sp.res).bind fun r => .ret (fz ++ (os ++ (r.2 ++ wr dst r.1)))))
/-- Is a row new, behind an append? -/
def appFr (d : Row) (a b : Bool) : Bool := match d with
  | .eqs _ => a && b
  | _ => a
def builtinR (cx : Cx) (id : Nat) (dst : Option Tmp) (b : Builtin) (ts : List TypeId) (args : List Operand) : Rd (List (Loc × Ct)) :=
  match b, ts, args with
  | .len, [t], [x] => (cx.tio t).bind fun ti => match ti.k with
    | .str => (scal x).bind fun
      | .string s => .ret (wr dst (.v (.cell (.sc (.int .i64 s.size)))))
      | _ => .fail
    | .slice _ => (opv x).bind fun v => (rowR v).bind fun p => .ret (wr dst (.v (.cell (.sc (.int .i64 p.1.len)))))
    | _ => .fail
  | .min, [_, _], [x, y] => (scal x).bind fun a => (scal y).bind fun b => match a, b with
    | .int k m, .int _ n => .ret (wr dst (.v (.cell (.sc (.int k (if n < m then n else m))))))
    | _, _ => .fail
  | .append, [t, t'], [x, y] => .test (Nat.beq t t') ((rkOfElem cx t).bind fun ek => (opv x).bind fun
    | .v (.cell (.ref i)) => .ask (.r i) fun
      | .row true fr d => .test (RK.eqb d.kind ek.2) ((opv y).bind fun yv => (rowR yv).bind fun p => match d.app p.1 with
        | some d' => .test (decide (d.len + p.1.len < two40)) (newLoc (.r id) (.ret ((.r i, .dead) :: (.r id, .row true (appFr d fr p.2) d') :: wr dst (.v (.cell (.ref id))))))
        | none => .fail)
      | _ => .fail
    | _ => .fail)
  | _, _, _ => .fail
def replR (k : RK) (n : Nat) : Row := match k with
  | .ints k => .ints k (List.replicate n 0)
  | .strs => .strs (List.replicate n ⟨#[]⟩)
  | .eqs => .eqs (List.replicate n eqD)
def convR (a b : TK) (x : AV) : Rd AV :=
  match a, b, x with
  | .int _, .int k, .v (.cell (.sc (.int _ n))) => .ret (.v (.cell (.sc (.int k (k.wrap n)))))
  | .str, .str, .v (.cell (.sc (.string s))) => .ret (.v (.cell (.sc (.string s))))
  | .slice _, .str, x => (rowR x).bind fun p => match p.1 with
    | .ints .u8 xs => .ret (.v (.cell (.sc (.string (strOf xs)))))
    | _ => .fail
  | _, _, _ => .fail
/-- An operation: what it writes. -/
def eff (cx : Cx) (id : Nat) (o : Oper) : Rd (List (Loc × Ct)) :=
  match o.op with
  | .move x | .assign x => match x with
    | .const (.slice none 0 0) => (rkOfElem cx o.type).bind fun ek => newLoc (.r id) (.ret ((.r id, .row true true (Row.nil ek.2)) :: wr o.dst (.v (.cell (.ref id)))))
    | x => (opv x).bind fun v => .ret (wr o.dst v)
  | .pick c a b => (scal c).bind fun
    | .bool t => .br t ((opv a).bind fun v => .ret (wr o.dst v)) ((opv b).bind fun v => .ret (wr o.dst v))
    | _ => .fail
  | .alloc t => (cx.tio t).bind fun ti => (zeroR ti.zc id).bind fun p => newLoc (.b id) (.ret (p.2 ++ ((.b id, .box p.1) :: wr o.dst (.bx id 0))))
  | .box _ x => (opv x).bind fun v => (cellsOf v).bind fun cs => newLoc (.b id) (.ret ((.b id, .box cs) :: wr o.dst (.bx id 0)))
  | .build t ps => (cx.tio t).bind fun ti => match ti.k with
    | .struct fs => (zeroR ti.zc id).bind fun p => (fillR fs ps.toList p.1).bind fun cs => .ret (p.2 ++ wr o.dst (.v (.agg cs)))
    | _ => .fail
  | .buildSlice t n ps => (rkOfElem cx t).bind fun ek => .test ((Nat.beq ps.toList.length n && idxOk 0 ps.toList) && decide (n ≤ 4000000)) ((eltsR ek.2 (ps.toList.map (·.2))).bind fun q =>
      newLoc (.r id) (.ret (q.2.2 ++ ((.r id, .row true q.2.1 q.1) :: wr o.dst (.v (.cell (.ref id)))))))
  | .load t a => (cx.tio t).bind fun ti => (opv a).bind fun p => (loadR ti (isSt ti.k) p).bind fun v => .ret (wr o.dst v)
  | .store t a x => (cx.tio t).bind fun ti => (opv a).bind fun p => (opv x).bind fun v => (cellsOf v).bind fun us => (storeR ti p us).bind fun ws => .ret (ws ++ wr o.dst (.v (.cell (.sc undef))))
  | .nilCheck x => (opv x).bind fun
    | .bx b off => .ret (wr o.dst (.bx b off))
    | .pe fr cs => .ret (wr o.dst (.pe fr cs))
    | .pr i e off => .ret (wr o.dst (.pr i e off))
    | _ => .fail
  | .binOp op t x y _ => (scal x).bind fun a => (scal y).bind fun b => match boolR op a b with
    | some m => (cx.tio t).bind fun ti => .test (isBo ti.k) (m.bind fun v => .ret (wr o.dst (.v (.cell (.sc v)))))
    | none => (binR op a b).bind fun v => .ret (wr o.dst (.v (.cell (.sc v))))
  | .unOp op _ x => (scal x).bind fun a => (unR op a).bind fun v => .ret (wr o.dst (.v (.cell (.sc v))))
  | .convert a b x => (cx.tio a).bind fun ta => (cx.tio b).bind fun tb => (opv x).bind fun v => (match ta.k with
      | .slice e => (cx.tio e).bind fun te => match te.k with
        | .int .u8 => convR ta.k tb.k v
        | _ => .fail
      | _ => convR ta.k tb.k v).bind fun u => .ret (wr o.dst u)
  | .makeSlice t l c => (rkOfElem cx t).bind fun ek => (scal l).bind fun a => (scal c).bind fun b => match a, b with
    | .int .i64 n, .int .i64 m => .test (decide (0 ≤ n)) (.test (decide (n = m)) (.test (decide (n < (two40 : Int))) (newLoc (.r id) (.ret ((.r id, .row true true (replR ek.2 n.toNat)) :: wr o.dst (.v (.cell (.ref id))))))))
    | _, _ => .fail
  | .slice t x lo hi none => (cx.tio t).bind fun ti => match ti.k with
    | .str => (scal x).bind fun
      | .string s => (sliceS s lo hi).bind fun u => .ret (wr o.dst u)
      | _ => .fail
    | .slice e => (cx.tio e).bind fun te => (opv x).bind fun v => (sliceR te.size v lo hi).bind fun u => .ret (wr o.dst u)
    | _ => .fail
  | .fieldAddr t x f => (cx.tio t).bind fun ti => (opv x).bind fun v => (fieldR ti f v).bind fun u => .ret (wr o.dst u)
  | .indexAddr t x i => (cx.tio t).bind fun ti => match ti.k with
    | .slice e => (cx.tio e).bind fun te => (opv x).bind fun v => (opv i).bind fun iv => (asInt iv).bind fun n => (indexAddrR te.size v n).bind fun u => .ret (wr o.dst u)
    | _ => .fail
  | .index t x i => (cx.tio t).bind fun ti => match ti.k with
    | .str => (scal x).bind fun
      | .string s => (opv i).bind fun iv => (asInt iv).bind fun n => inR n s.size (.ret (wr o.dst (.v (.cell (.sc (.int .u8 (bt s n)))))))
      | _ => .fail
    | _ => .fail
  | .extract x n => (opv x).bind fun
    | .tup vs => match vs[n]? with
      | some u => .ret (wr o.dst (.v u))
      | none => .fail
    | _ => .fail
  | .call c => match c.callee with
    | .builtin b => builtinR cx id o.dst b c.argTypes.toList c.args.toList
    | .value (.func f) => callR cx id o.dst f c.args.toList
    | _ => .fail
  | _ => .fail
def dstOk (nt : Nat) : Option Tmp → Bool
  | some d => Nat.blt d nt
  | none => true
/-- With its guard. -/
def effG (cx : Cx) (nt : Nat) (ops : Array Oper) (id : Nat) (o : Oper) : Rd (List (Loc × Ct)) :=
  match dstOk nt o.dst with
  | false => .fail
  | true => match o.guard with
    | none => eff cx id o
    | some (j, want) => match ops[j]? with
      | some oj => match oj.dst with
        | some d => .ask (.t d) fun
          | .av (.v (.cell (.sc (.bool b)))) => .br (b == want) (eff cx id o) (.ret (wr o.dst (.v (.cell (.sc undef)))))
          | .av (.v (.cell (.sc (.tuple _)))) => .ret (wr o.dst (.v (.cell (.sc undef))))
          | _ => .fail
        | none => .fail
      | none => .fail
end Vx
