/- The executor over code, in continuation form. Plain definitions. Conditions: those that each theorem states. -/
import Derived.Test.YtbgheffgkncpgaaVxDef
set_option linter.unusedVariables false
set_option linter.unusedSimpArgs false
namespace Vx
open Go

def appK {R : Type} : List (Loc × Ct) → St → (St → Option R) → Option R
  | [], σ, k => k σ
  | w :: ws, σ, k => appK ws (w :: σ) k
/-- Is the destination of o a guard of an operation behind it? -/
def guardsOf (ops : Array Oper) (d : Tmp) : List Oper → Bool
  | [] => false
  | o :: l => match o.guard with
    | some (j, _) => match ops[j]? with
      | some oj => match oj.dst with
        | some e => Nat.beq d e || guardsOf ops d l
        | none => guardsOf ops d l
      | none => guardsOf ops d l
    | none => guardsOf ops d l
/-- A guard that is a Bool: both cases. -/
def splitK {R : Type} (ops : Array Oper) (dst : Option Tmp) (l : List Oper) (σ : St) (k : St → Option R) : Option R :=
  match dst with
  | none => k σ
  | some d => match guardsOf ops d l with
    | false => k σ
    | true => lookupK σ (.t d) fun
      | .av (.v (.cell (.sc (.bool b)))) => match b with
        | true => k ((.t d, .av (.v (.cell (.sc (.bool true))))) :: σ)
        | false => k ((.t d, .av (.v (.cell (.sc (.bool false))))) :: σ)
      | _ => k σ
/-- Operations one behind the other; what each read and wrote. -/
def opsK {R : Type} (cx : Cx) (nt : Nat) (ops : Array Oper) (id : Nat) : List Oper → Nat → St → List (List Loc × List Loc) → (St → List (List Loc × List Loc) → Option R) → Option R
  | [], _, σ, log, k => k σ log
  | o :: l, p, σ, log, k => (effG cx nt ops (id + 16 * p) o).runK σ [] fun ws rs => appK ws σ fun σ' => splitK ops o.dst l σ' fun σ'' =>
      opsK cx nt ops id l (p + 1) σ'' ((rs, ws.map (·.1)) :: log) k
def memL (l : Loc) : List Loc → Bool
  | [] => false
  | m :: ms => l.beq m || memL l ms
def disj (a b : List Loc) : Bool := a.all fun l => !memL l b
def hasB (m j : Nat) : Bool := Nat.beq (Nat.land (Nat.shiftRight m j) 1) 1
def ancOf (acc : List Nat) : List Edge → Nat → Nat
  | [], m => m
  | e :: l, m => match Region.binds .any e with
    | true => ancOf acc l (Nat.lor m (Nat.lor (Nat.shiftLeft 1 e.on) (acc.getD e.on 0)))
    | false => ancOf acc l m
/-- What stands before each operation, through others too: as bits. -/
def ancs : List Oper → List Nat → List Nat
  | [], acc => acc
  | o :: l, acc => ancs l (acc ++ [ancOf acc o.after.toList 0])
def indepRow (anc : Nat) (x : List Loc × List Loc) : List (List Loc × List Loc) → Nat → Bool
  | [], _ => true
  | y :: l, j => (hasB anc j || (disj y.2 x.1 && disj y.2 x.2 && disj y.1 x.2)) && indepRow anc x l (j + 1)
/-- Operations that do not wait for each other do not meet: log in the text's order. -/
def indepB (an : List Nat) : List (List Loc × List Loc) → List (List Loc × List Loc) → Nat → Bool
  | _, [], _ => true
  | before, x :: l, j => indepRow (an.getD j 0) x before 0 && indepB an (before ++ [x]) l (j + 1)
def edgesOk : List Oper → Nat → Bool
  | [], _ => true
  | o :: l, i => (o.after.toList.all fun e => match Region.binds .any e with
      | true => Nat.blt e.on i
      | false => true) && edgesOk l (i + 1)
def isMem : Loc × Ct → Bool
  | (.t _, _) => false
  | _ => true
/-- Only the slots that live. -/
def pruneK {R : Type} (σ0 : St) : List Nat → St → (St → Option R) → Option R
  | [], acc, k => k acc
  | t :: ts, acc, k => lookupK σ0 (.t t) fun
      | .av x => pruneK σ0 ts ((.t t, .av x) :: acc) k
      | _ => pruneK σ0 ts acc k
def memK {R : Type} : St → St → (St → Option R) → Option R
  | [], acc, k => appK acc [] k
  | w :: σ, acc, k => match isMem w with
    | true => memK σ (w :: acc) k
    | false => memK σ acc k
structure FnI where
  f : FuncId
  body : Code
  nt : Nat
  res : List ResultVar
  keep : List Nat
  live : Nat → List Nat
  nb : Nat
  mode : Md
def regionK {R : Type} (cx : Cx) (F : FnI) (id : Nat) (ops : Array Oper) (draw : Bool) (σ : St) (k : St → Option R) : Option R :=
  opsK cx F.nt ops (id * 1000 + 1000) ops.toList 0 σ [] fun σ' log =>
    match draw with
    | false => memK σ' [] fun m => pruneK σ' F.keep m k
    | true => match edgesOk ops.toList 0 && indepB (ancs ops.toList []) [] log.reverse 0 with
      | true => memK σ' [] fun m => pruneK σ' F.keep m k
      | false => none

/-! at a loop's head -/
def posOf (n : Nat) : List Nat → Nat → Option Nat
  | [], _ => none
  | m :: l, i => match Nat.beq n m with
    | true => some i
    | false => posOf n l (i + 1)
def insN (n : Nat) (l : List Nat) : List Nat := match l.any (Nat.beq n) with
  | true => l
  | false => l ++ [n]
def refsC (σ : St) : List Cell → List Nat → List Nat
  | [], l => l
  | .ref i :: cs, l => match get σ (.r i) with
    | .row true _ _ => refsC σ cs (insN i l)
    | _ => refsC σ cs l
  | _ :: cs, l => refsC σ cs l
def refsA (σ : St) : AV → List Nat × List Nat → List Nat × List Nat
  | .v (.cell c), (r, b) => (refsC σ [c] r, b)
  | .v (.agg cs), (r, b) => (refsC σ cs r, b)
  | .bx i _, (r, b) => match get σ (.b i) with
    | .box cs => (refsC σ cs r, insN i b)
    | _ => (r, b)
  | _, p => p
def refsT (σ : St) : List Nat → List Nat × List Nat → List Nat × List Nat
  | [], p => p
  | t :: ts, p => match get σ (.t t) with
    | .av x => refsT σ ts (refsA σ x p)
    | _ => refsT σ ts p
/-- A cell under new numbers; a frozen row as its data. -/
def renC (σ : St) (rm : List Nat) : Cell → Option Cell
  | .sc v => some (.sc v)
  | .ro fr d => some (.ro fr d)
  | .ref i => match get σ (.r i) with
    | .row true _ _ => match posOf i rm 0 with
      | some j => some (.ref j)
      | none => none
    | .row false fr d => some (.ro fr d)
    | _ => none
def renCs (σ : St) (rm : List Nat) : List Cell → Option (List Cell)
  | [] => some []
  | c :: cs => match renC σ rm c with
    | some c' => match renCs σ rm cs with
      | some cs' => some (c' :: cs')
      | none => none
    | none => none
def renA (σ : St) (rm bm : List Nat) : AV → Option AV
  | .v (.cell c) => match renC σ rm c with
    | some c' => some (.v (.cell c'))
    | none => none
  | .v (.agg cs) => match renCs σ rm cs with
    | some c' => some (.v (.agg c'))
    | none => none
  | .bx i off => match posOf i bm 0 with
    | some j => some (.bx j off)
    | none => none
  | _ => none
def renT (σ : St) (rm bm : List Nat) : List Nat → St → Option St
  | [], acc => some acc
  | t :: ts, acc => match get σ (.t t) with
    | .av x => match renA σ rm bm x with
      | some x' => renT σ rm bm ts ((.t t, .av x') :: acc)
      | none => renT σ rm bm ts acc
    | _ => renT σ rm bm ts acc
def renB (σ : St) (rm : List Nat) : List Nat → Nat → St → Option St
  | [], _, acc => some acc
  | b :: bs, j, acc => match get σ (.b b) with
    | .box cs => match renCs σ rm cs with
      | some cs' => renB σ rm bs (j + 1) ((.b j, .box cs') :: acc)
      | none => none
    | _ => none
def renR (σ : St) : List Nat → Nat → St → Option St
  | [], _, acc => some acc
  | i :: is, j, acc => match get σ (.r i) with
    | .row true fr d => renR σ is (j + 1) ((.r j, .row true fr d) :: acc)
    | _ => none
def preB : Nat → Nat → List Nat → Bool
  | 0, _, _ => true
  | n + 1, i, b :: bs => Nat.beq b i && preB n (i + 1) bs
  | _ + 1, _, [] => false
def normWith (σ : St) (live : List Nat) (nb : Nat) (p : List Nat × List Nat) : Option St :=
  match nodupB p.1 && (nodupB p.2 && preB nb 0 p.2) with
  | true => match renR σ p.1 0 [] with
    | some m => match renB σ p.1 p.2 0 m with
      | some m' => renT σ p.1 p.2 live m'
      | none => none
    | none => none
  | false => none
def upto : Nat → Nat → List Nat
  | 0, _ => []
  | n + 1, i => i :: upto n (i + 1)
def boxRefs (σ : St) : List Nat → List Nat → List Nat
  | [], l => l
  | b :: bs, l => match get σ (.b b) with
    | .box cs => boxRefs σ bs (refsC σ cs l)
    | _ => boxRefs σ bs l
def norm (live : List Nat) (nb : Nat) (σ : St) : Option St := normWith σ live nb (refsT σ live (boxRefs σ (upto nb 0) [], upto nb 0))

inductive Ex where
  | exit (id : Nat) | ret
def iter {R : Type} (body : St → (St → Option R) → Option R) (live : List Nat) (nb : Nat) : Nat → St → Option R
  | 0, _ => none
  | m + 1, σ => body σ fun σ' => match norm live nb σ' with
    | some τ => iter body live nb m τ
    | none => none
/-- A loop's key: its first region. -/
def keyOf : Code → Nat
  | .region id _ _ => id
  | .seq a _ => keyOf a
  | .block _ a => keyOf a
  | .loop a => keyOf a
  | .cond _ a _ => keyOf a
  | _ => 0
def condK {R : Type} (c : Operand) (σ : St) (t e : Unit → Option R) : Option R :=
  match c with
  | .tmp n => lookupK σ (.t n) fun
    | .av (.v (.cell (.sc (.bool b)))) => match b with
      | true => t ()
      | false => e ()
    | _ => none
  | .const (.bool b) => match b with
    | true => t ()
    | false => e ()
  | _ => none
def cxK {R : Type} (cx : Cx) (F : FnI) (n : Nat) : Code → St → (St → Option R) → (Ex → St → Option R) → Option R
  | .skip, σ, kn, _ => kn σ
  | .region id ops draw, σ, kn, _ => regionK cx F id ops draw σ kn
  | .seq a b, σ, kn, kx => cxK cx F n a σ (fun σ' => cxK cx F n b σ' kn kx) kx
  | .cond c a b, σ, kn, kx => condK c σ (fun _ => cxK cx F n a σ kn kx) (fun _ => cxK cx F n b σ kn kx)
  | .block id c, σ, kn, kx => cxK cx F n c σ kn fun e σ' => match e with
    | .exit i => match Nat.beq i id with
      | true => kn σ'
      | false => kx (.exit i) σ'
    | .ret => kx .ret σ'
  | .loop c, σ, _, kx => match norm (F.live (keyOf c)) F.nb σ with
    | some τ => iter (fun σ' k => cxK cx F n c σ' k kx) (F.live (keyOf c)) F.nb n τ
    | none => none
  | .exit id, σ, _, kx => kx (.exit id) σ
  | .ret, σ, _, kx => kx .ret σ
  | _, _, _, _ => none

/-! results -/
def outC (m : Md) (c : Cell) : Rd SC :=
  match m, c with
  | _, .sc v => .ret (.sc v)
  | .mix _, .ro _ d => .ret (.row d)
  | .fresh, .ro true d => .ret (.row d)
  | .alias, .ro _ d => .ret (.row d)
  | .fresh, .ref i => .ask (.r i) fun
    | .row _ true d => .ret (.row d)
    | _ => .fail
  | .alias, .ref i => .ask (.r i) fun
    | .row _ _ d => .ret (.row d)
    | _ => .fail
  | _, _ => .fail
def outCs (m : Md) : List Cell → Rd (List SC)
  | [] => .ret []
  | c :: cs => (outC m c).bind fun x => (outCs m cs).bind fun xs => .ret (x :: xs)
def outV1 (m : Md) : V1 → Rd DA
  | .cell c => (outC m c).bind fun x => .ret (.c x)
  | .agg cs => (outCs m cs).bind fun x => .ret (.agg x)
def outV1s (m : Md) : List V1 → Rd (List DA)
  | [] => .ret []
  | x :: l => (outV1 m x).bind fun a => (outV1s m l).bind fun r => .ret (a :: r)
/-- A result variable's value. -/
def resVar (cx : Cx) : ResultVar → Rd AV
  | .tmp t => avOf t
  | .cell a ty => (cx.tio ty).bind fun ti => (avOf a).bind fun p => loadR ti (isSt ti.k) p
def resVars (cx : Cx) : List ResultVar → Rd (List V1)
  | [] => .ret []
  | x :: l => (resVar cx x).bind fun
    | .v u => (resVars cx l).bind fun r => .ret (u :: r)
    | _ => .fail
def boxMd : Md → Md
  | .mix os => .mix os
  | _ => .alias
def boxCs (m : Md) (b : Nat) : Rd (List SC) := .ask (.b b) fun
  | .box cs => outCs (boxMd m) cs
  | _ => .fail
def outBxs (m : Md) : Nat → Nat → Rd (List (List SC))
  | 0, _ => .ret []
  | n + 1, b => (boxCs m b).bind fun x => (outBxs m n (b + 1)).bind fun r => .ret (x :: r)
/-- Cells of the results, by flags: what is given away, what is read. -/
structure Mx where
  os : List RF
  owns : List Nat
  reads : List Nat
def outMs : List Cell → List RF → Rd (List SC × Mx)
  | [], os => .ret ([], ⟨os, [], []⟩)
  | .sc v :: cs, os => (outMs cs os).bind fun p => .ret (.sc v :: p.1, p.2)
  | .ro true d :: cs, .new :: os => (outMs cs os).bind fun p => .ret (.row d :: p.1, p.2)
  | .ro _ d :: cs, .any :: os => (outMs cs os).bind fun p => .ret (.row d :: p.1, p.2)
  | .ref i :: cs, .new :: os => .ask (.r i) fun
    | .row _ true d => (outMs cs os).bind fun p => .ret (.row d :: p.1, ⟨p.2.os, p.2.owns, i :: p.2.reads⟩)
    | _ => .fail
  | .ref i :: cs, .any :: os => .ask (.r i) fun
    | .row _ _ d => (outMs cs os).bind fun p => .ret (.row d :: p.1, ⟨p.2.os, p.2.owns, i :: p.2.reads⟩)
    | _ => .fail
  | .ref i :: cs, .own :: os => .ask (.r i) fun
    | .row true true d => (outMs cs os).bind fun p => .ret (.row d :: p.1, ⟨p.2.os, i :: p.2.owns, p.2.reads⟩)
    | _ => .fail
  | _ :: _, _ => .fail
def outMV : List V1 → List RF → Rd (List DA × Mx)
  | [], os => .ret ([], ⟨os, [], []⟩)
  | .cell c :: l, os => (outMs [c] os).bind fun p => match p.1 with
    | [x] => (outMV l p.2.os).bind fun q => .ret (.c x :: q.1, ⟨q.2.os, p.2.owns ++ q.2.owns, p.2.reads ++ q.2.reads⟩)
    | _ => .fail
  | .agg cs :: l, os => (outMs cs os).bind fun p => (outMV l p.2.os).bind fun q => .ret (.agg p.1 :: q.1, ⟨q.2.os, p.2.owns ++ q.2.owns, p.2.reads ++ q.2.reads⟩)
def resOf (cx : Cx) (m : Md) (nb : Nat) (rs : List ResultVar) : Rd (List DA) :=
  match m, rs with
  | .mix os, rs => (resVars cx rs).bind fun us => (outMV us os).bind fun p => .test (nodupB p.2.owns && p.2.reads.all fun i => !(p.2.owns.any (Nat.beq i))) (.ret p.1)
  | .fresh, rs => (resVars cx rs).bind fun us => outV1s .fresh us
  | .alias, [r] => (resVar cx r).bind fun
    | .v u => (outV1 .alias u).bind fun x => .ret [x]
    | .bx b 0 => .test (Nat.ble nb b) ((boxCs .alias b).bind fun x => .ret [.bx x])
    | _ => .fail
  | .alias, rs => (resVars cx rs).bind fun us => outV1s .alias us
  | _, _ => .fail
def finR (cx : Cx) (F : FnI) : Rd (List DA × List (List SC)) :=
  (resOf cx F.mode F.nb F.res).bind fun r => (outBxs F.mode F.nb 0).bind fun o => .ret (r, o)
def scCells (fr : Bool) : List SC → List Cell
  | [] => []
  | x :: l => scCell fr x :: scCells fr l
def argSt : List DA → Nat → Nat → St → St
  | [], _, _, σ => σ
  | .c x :: l, t, b, σ => argSt l (t + 1) b ((.t t, .av (.v (.cell (scCell false x)))) :: σ)
  | .agg xs :: l, t, b, σ => argSt l (t + 1) b ((.t t, .av (.v (.agg (scCells false xs)))) :: σ)
  | .bx xs :: l, t, b, σ => argSt l (t + 1) (b + 1) ((.t t, .av (.bx b 0)) :: (.b b, .box (scCells false xs)) :: σ)
def nBx : List DA → Nat
  | [] => 0
  | .bx _ :: l => nBx l + 1
  | _ :: l => nBx l
def finK (cx : Cx) (F : FnI) (σ : St) : Option (List DA × List (List SC)) := (finR cx F).runK σ [] fun x _ => some x
def finX (cx : Cx) (F : FnI) : Ex → St → Option (List DA × List (List SC))
  | .ret, σ => finK cx F σ
  | .exit _, _ => none
def runF (cx : Cx) (F : FnI) (n : Nat) (args : List DA) : Option (List DA × List (List SC)) :=
  match (Nat.beq (nBx args) F.nb && Nat.ble args.length F.nt) && !isGive F.mode with
  | true => cxK cx F n F.body (argSt args 0 0 []) (finK cx F) (finX cx F)
  | false => none
end Vx
