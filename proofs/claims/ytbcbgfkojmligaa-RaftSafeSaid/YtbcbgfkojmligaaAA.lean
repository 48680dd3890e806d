import Derived.Calls
import Derived.Orders
import Derived.Attr
/- Part of an abstract machine for Go code and of its soundness, for any program of the model; no condition. -/
set_option maxHeartbeats 4000000
set_option linter.unusedVariables false
set_option linter.unusedSimpArgs false
namespace Go.AM

/-- Types of data. -/
inductive Ty where
  | int (k : IntKind) | bool | str | list (t : Ty) | olist (t : Ty) | flist (t : Ty) | unit | pair (a b : Ty) | fn (a r : Ty) | ref (t : Ty)
  deriving DecidableEq

@[reducible] def den : Ty → Type
  | .int _ => Int
  | .bool => Bool
  | .str => ByteArray
  | .list t => List (den t)
  | .olist t => List (den t)
  | .flist t => List (den t)
  | .unit => Unit
  | .pair a b => den a × den b
  | .fn a r => den a → den r
  | .ref t => den t

def size : Ty → Nat
  | .unit => 0
  | .pair a b => size a + size b
  | _ => 1

def dflt : (t : Ty) → den t
  | .int _ => (0 : Int)
  | .bool => false
  | .str => (⟨#[]⟩ : ByteArray)
  | .list _ => []
  | .olist _ => []
  | .flist _ => []
  | .unit => ()
  | .pair a b => (dflt a, dflt b)
  | .fn _ r => fun _ => dflt r
  | .ref t => dflt t

/-- May a value of this type be shared by nobody (no memory behind it)? -/
def flat : Ty → Bool
  | .int _ | .bool | .str | .unit => true
  | .pair a b => flat a && flat b
  | _ => false

/-- No function among it. -/
def plain : Ty → Bool
  | .fn _ _ => false
  | .list t => plain t && decide (0 < size t)
  | .olist t => plain t && decide (0 < size t)
  | .flist t => plain t && decide (0 < size t)
  | .ref t => plain t
  | .pair a b => plain a && plain b
  | _ => true

inductive AV where
  | undef
  | nilf
  | int (k : IntKind) (n : Int)
  | bool (b : Bool)
  | str (s : ByteArray)
  | sl (t : Ty) (xs : List (den t)) (full : Bool)
  | own (k lo len : Nat)
  | ptr (k off : Nat)
  | pn (k b : Nat)
  | rptr (k i off : Nat)
  | el (t : Ty) (x : den t) (off : Nat)
  | agg (cs : List AV)
  | tup (vs : List AV)
  | clo (f : Nat) (caps : List AV)
  | fv (a r : Ty) (p : den a → den r)
  | g (b : Bool) (v : AV)
  | mp (k : Nat)

inductive Obj where
  | box (cs : List AV)
  | row (t : Ty) (xs : List (den t)) (frz : Bool)
  | mp (m : List (Int × Int))

/-- numbers by numbers -/
def mpFind (x : Int) : List (Int × Int) → Nat → Option (Nat × Int)
  | [], _ => none
  | (a, v) :: l, i => if x = a then some (i, v) else mpFind x l (i + 1)
def mpGet (m : List (Int × Int)) (x : Int) : Int := match mpFind x m 0 with
  | some (_, v) => v
  | none => 0
def mpHas (m : List (Int × Int)) (x : Int) : Bool := (mpFind x m 0).isSome
def mpPut (m : List (Int × Int)) (x v : Int) : List (Int × Int) := match mpFind x m 0 with
  | some (i, _) => m.set i (x, v)
  | none => m ++ [(x, v)]

abbrev Env := List (Nat × AV)
abbrev Heap := List (Nat × Obj)

def eget : Env → Nat → AV
  | [], _ => .undef
  | (i, v) :: e, j => if i = j then v else eget e j

def hget : Heap → Nat → Option Obj
  | [], _ => none
  | (i, v) :: e, j => if i = j then some v else hget e j

def hput : Heap → Nat → Obj → Heap
  | [], k, o => [(k, o)]
  | (i, v) :: e, k, o => if i = k then (k, o) :: e else (i, v) :: hput e k o

def hdel : Heap → Nat → Heap
  | [], _ => []
  | (i, v) :: e, k => if i = k then hdel e k else (i, v) :: hdel e k

structure St where
  env : Env
  heap : Heap

/-! ### data as values -/
def cellsA : (t : Ty) → den t → List AV → List AV
  | .int k, n, l => .int k n :: l
  | .bool, b, l => .bool b :: l
  | .str, s, l => .str s :: l
  | .list t, xs, l => .sl t xs false :: l
  | .olist t, xs, l => .sl t xs false :: l
  | .flist t, xs, l => .sl t xs true :: l
  | .unit, _, l => l
  | .pair a b, x, l => cellsA a x.1 (cellsA b x.2 l)
  | .fn a r, p, l => .fv a r p :: l
  | .ref t, x, l => .el t x 0 :: l
def cells (t : Ty) (x : den t) : List AV := cellsA t x []

def ofV : (t : Ty) → den t → AV
  | .int k, n => .int k n
  | .bool, b => .bool b
  | .str, s => .str s
  | .list t, xs => .sl t xs false
  | .olist t, xs => .sl t xs false
  | .flist t, xs => .sl t xs true
  | .unit, _ => .agg []
  | .pair a b, x => .agg (cellsA a x.1 (cellsA b x.2 []))
  | .fn a r, p => .fv a r p
  | .ref t, x => .el t x 0

def ofArgs : (a : Ty) → den a → List AV
  | .pair t b, x => ofV t x.1 :: ofArgs b x.2
  | _, _ => []

def cellsOf : AV → List AV
  | .agg cs => cs
  | v => [v]

/-! ### contracts -/
/-- Kinds of arguments: read alone; taken over; a box that is given back, that is gone. -/
inductive Mk where | no | own | box | gone
  deriving DecidableEq

structure Fn where
  a : Ty
  r : Ty
  pre : den a → Prop
  f : den a → den r
  tot : Bool := false
  kd : Option (List Mk) := none
  bk : Ty := .unit
  bf : den a → den bk := fun _ => dflt bk

/-- Results that the machine knows to hand on. -/
def okRes : Ty → Bool
  | .pair t b => plain t && okRes b
  | .unit => true
  | _ => false

abbrev Tab := List (Nat × Fn)
def tget : Tab → Nat → Option Fn
  | [], _ => none
  | (i, v) :: e, j => if i = j then some v else tget e j

def cast? (t' t : Ty) (x : den t') : Option (den t) := if h : t' = t then some (h ▸ x) else none
def castL? (t' t : Ty) (xs : List (den t')) : Option (List (den t)) := if h : t' = t then some (h ▸ xs) else none
@[go_sem] theorem cast?_self (t : Ty) (x : den t) : cast? t t x = some x := by simp [cast?]
@[go_sem] theorem castL?_self (t : Ty) (x : List (den t)) : castL? t t x = some x := by simp [castL?]

def appTy : Ty → Ty → Ty
  | .pair t a, b => .pair t (appTy a b)
  | _, b => b
def join : (a b : Ty) → den a → den b → den (appTy a b)
  | .pair _ a, b, x, y => (x.1, join a b x.2 y)
  | .int _, _, _, y | .bool, _, _, y | .str, _, _, y | .list _, _, _, y | .olist _, _, _, y | .flist _, _, _, y | .unit, _, _, y | .fn _ _, _, _, y | .ref _, _, _, y => y
/-- What is left of a list of types behind another one. -/
def dropTy : Ty → Ty → Option Ty
  | .pair t a, .pair t' b => if t = t' then dropTy a b else none
  | .unit, b => some b
  | _, _ => none

/-- A slice's elements. -/
def slOf (H : Heap) (t : Ty) : AV → Option (List (den t))
  | .sl t' xs _ => castL? t' t xs
  | .own k lo len => match hget H k with
    | some (.row t' xs _) => castL? t' t ((xs.drop lo).take len)
    | _ => none
  | _ => none

def fnAs (a r : Ty) (fn : Fn) (c : Ty) (y : den c) : Option (den a → den r) :=
  if h : fn.a = appTy a c ∧ fn.r = r ∧ fn.tot = true ∧ flat r = true ∧ plain a = true ∧ plain c = true ∧ fn.kd = none then some fun x => h.2.1 ▸ fn.f (h.1 ▸ join a c x y) else none

def noRef : Ty → Bool
  | .ref _ => false
  | .pair a b => noRef a && noRef b
  | _ => true

/-- Data out of cells. -/
def toCells (H : Heap) : (t : Ty) → List AV → Option (den t × List AV)
  | .unit, cs => some ((), cs)
  | .pair a b, cs => match toCells H a cs with
    | some (x, cs1) => match toCells H b cs1 with
      | some (y, cs2) => some ((x, y), cs2)
      | none => none
    | none => none
  | .int k, .int k' n :: cs => if k' = k then some (n, cs) else none
  | .bool, .bool b :: cs => some (b, cs)
  | .str, .str s :: cs => some (s, cs)
  | .list t, c :: cs => match slOf H t c with
    | some xs => some (xs, cs)
    | none => none
  | .flist t, .sl t' xs true :: cs => match castL? t' t xs with
    | some xs => some (xs, cs)
    | none => none
  | .ref t, .el t' x 0 :: cs => match cast? t' t x with
    | some x => some (x, cs)
    | none => none
  | .ref t, .ptr k 0 :: cs => if noRef t then match hget H k with
      | some (.box bs) => match toCells H t bs with
        | some (x, []) => some (x, cs)
        | _ => none
      | _ => none
    else none
  | .fn a r, .fv a' r' p :: cs => if h : a' = a ∧ r' = r then some (h.1 ▸ h.2 ▸ p, cs) else none
  | _, _ => none

/-- One value. -/
def toV (H : Heap) : (t : Ty) → AV → Option (den t)
  | .pair a b, .agg cs => match toCells H (.pair a b) cs with
    | some (x, []) => some x
    | _ => none
  | .unit, .agg [] => some ()
  | .pair _ _, _ => none
  | .unit, _ => none
  | t, v => match toCells H t [v] with
    | some (x, []) => some x
    | _ => none

/-- Arguments, each one value; no closures among them. -/
def toArgs0 (H : Heap) : (a : Ty) → List AV → Option (den a)
  | .unit, [] => some ()
  | .pair t b, v :: vs => match toV H t v with
    | some x => match toArgs0 H b vs with
      | some y => some (x, y)
      | none => none
    | none => none
  | _, _ => none

def toP (T : Tab) (H : Heap) : (t : Ty) → AV → Option (den t)
  | .fn a r, .clo f caps => match tget T f with
    | some fn => match dropTy a fn.a with
      | some c => match toArgs0 H c caps with
        | some y => fnAs a r fn c y
        | none => none
      | none => none
    | none => none
  | t, v => toV H t v

/-- Arguments, each one value. -/
def toArgs (T : Tab) (H : Heap) : (a : Ty) → List AV → Option (den a)
  | .unit, [] => some ()
  | .pair t b, v :: vs => match toP T H t v with
    | some x => match toArgs T H b vs with
      | some y => some (x, y)
      | none => none
    | none => none
  | _, _ => none

/-! ### what an operation does -/
structure Eff where
  frz : List Nat := []
  del : List Nat := []
  put : List (Nat × Obj) := []

inductive R where
  | no
  | ok (need : Prop) (v : AV) (e : Eff)
  /-- some Bool of which so much is known -/
  | amb (need : Prop) (p : Bool → Prop)

/-- numbers, bools, strings -/
inductive Sc where | i | b | s

inductive K where
  | mv | pick | box
  | alloc (cs : List AV)
  | allocA (t : Ty) (n : Nat)
  | load (n : Nat) (agg : Bool)
  | store (n : Nat)
  | fld (off : Nat)
  | idx (S : Nat)
  | aidx (S n : Nat)
  | bin (op : BinOp)
  | binb (op : BinOp)
  | bina (op : BinOp) (sh : List Sc)
  | isnil
  | neg | not
  | build (zs : List AV) (parts : List (Nat × Nat))
  | bslice (t : Ty) (n : Nat)
  | mks (t : Ty) (bytes : Nat)
  | slc (S : Nat) (lo hi mx : Bool)
  | slcs (lo hi : Bool)
  | len
  | lens
  | app (S bytes : Nat)
  | mn | mx
  | ext (i : Nat)
  | call (f : Nat)
  | callv
  | clo (f : Nat)
  | nilchk
  | index (S n : Nat)
  | field (off n : Nat) (agg : Bool)
  | mkm | mget | mput

/-- cells from 'off' on, n of them -/
def cut : List AV → Nat → Nat → Option (List AV)
  | _, 0, 0 => some []
  | c :: cs, 0, n + 1 => match cut cs 0 n with
    | some r => some (c :: r)
    | none => none
  | _ :: cs, off + 1, n => cut cs off n
  | [], _, _ => none

/-- cells laid from 'off' on -/
def lay : List AV → Nat → List AV → Option (List AV)
  | cs, 0, [] => some cs
  | _ :: cs, 0, x :: v => match lay cs 0 v with
    | some r => some (x :: r)
    | none => none
  | c :: cs, off + 1, v => match lay cs off v with
    | some r => some (c :: r)
    | none => none
  | [], _, _ => none

def asV (agg : Bool) (cs : List AV) : Option AV :=
  match agg, cs with
  | true, cs => some (.agg cs)
  | false, [c] => some c
  | false, _ => none

def InR (k : IntKind) (n : Int) : Prop := k.min ≤ n ∧ n ≤ k.max

/-- Pieces of values that memory can hold in one cell. -/
def AV.one : AV → Bool
  | .agg _ | .tup _ | .undef | .g _ _ | .pn _ _ | .mp _ => false
  | _ => true

def R.ofCells (agg : Bool) : Option (List AV) → R
  | some cs => match asV agg cs with
    | some v => .ok True v {}
    | none => .no
  | none => .no

/-- the keys of the rows that a value names -/
def keys1 : AV → List Nat
  | .own k _ _ => [k]
  | _ => []
def keysC (cs : List AV) : List Nat := cs.flatMap keys1
def keysV (H : Heap) : AV → List Nat
  | .own k _ _ => [k]
  | .agg cs => keysC cs
  | .ptr k _ => match hget H k with
    | some (.box cs) => keysC cs
    | _ => []
  | .clo _ caps => caps.flatMap fun
    | .own k _ _ => [k]
    | .ptr k _ => match hget H k with
      | some (.box cs) => keysC cs
      | _ => []
    | _ => []
  | _ => []

def aggEq : List Sc → List AV → List AV → Option Bool
  | [], [], [] => some true
  | .i :: sh, .int k a :: xs, .int k' b :: ys => match aggEq sh xs ys with
    | some r => if k = k' then some (decide (a = b) && r) else none
    | none => none
  | .b :: sh, .bool a :: xs, .bool b :: ys => match aggEq sh xs ys with
    | some r => some ((a == b) && r)
    | none => none
  | .s :: sh, .str a :: xs, .str b :: ys => match aggEq sh xs ys with
    | some r => some ((a.toList == b.toList) && r)
    | none => none
  | _, _, _ => none

def arith (op : BinOp) (k : IntKind) (x y : Int) : R :=
  match op with
  | .add => match k with
    | .i64 => .ok (InR .i64 (x + y)) (.int .i64 (x + y)) {}
    | k => .ok True (.int k (k.wrap (x + y))) {}
  | .sub => match k with
    | .i64 => .ok (InR .i64 (x - y)) (.int .i64 (x - y)) {}
    | k => .ok True (.int k (k.wrap (x - y))) {}
  | .mul => match k with
    | .i64 => .ok (InR .i64 (x * y)) (.int .i64 (x * y)) {}
    | k => .ok True (.int k (k.wrap (x * y))) {}
  | .quo => .ok (y ≠ 0 ∧ InR k (x.tdiv y)) (.int k (x.tdiv y)) {}
  | .rem => .ok (y ≠ 0) (.int k (x.tmod y)) {}
  | .eql => .ok True (.bool (decide (x = y))) {}
  | .neq => .ok True (.bool (!decide (x = y))) {}
  | .lss => .ok True (.bool (decide (x < y))) {}
  | .leq => .ok True (.bool (decide (x ≤ y))) {}
  | .gtr => .ok True (.bool (decide (y < x))) {}
  | .geq => .ok True (.bool (decide (y ≤ x))) {}
  | _ => .no

def bin (op : BinOp) : AV → AV → R
  | .int k x, .int k' y => if k = k' then arith op k x y else .no
  | .str a, .str b => match op with
    | .add => .ok (a.size + b.size ≤ 1099511627776) (.str (a ++ b)) {}
    | .eql => .ok True (.bool (a.toList == b.toList)) {}
    | .neq => .ok True (.bool (!(a.toList == b.toList))) {}
    | _ => .no
  | _, _ => .no

def layAll : List AV → List (Nat × Nat) → List AV → Option (List AV)
  | zs, [], [] => some zs
  | zs, (off, n) :: ps, v :: vs => if (cellsOf v).length = n ∧ (cellsOf v).all AV.one then match lay zs off (cellsOf v) with
      | some zs => layAll zs ps vs
      | none => none
    else none
  | _, _, _ => none

def dataAll (H : Heap) (t : Ty) : List AV → Option (List (den t))
  | [] => some []
  | v :: vs => match toV H t v with
    | some x => match dataAll H t vs with
      | some xs => some (x :: xs)
      | none => none
    | none => none

/-- results: the values, and the rows that the caller owns from then on -/
def ofRes (d : Nat) (r : Ty) (y : den r) : AV × List (Nat × Obj) :=
  match r, y with
  | .pair (.olist t) .unit, y => (.own d 0 y.1.length, [(d, .row t y.1 false)])
  | .pair t .unit, y => (ofV t y.1, [])
  | r, y => (.tup (go (10000 + 100 * d) r y).1, (go (10000 + 100 * d) r y).2)
where
  go : Nat → (r : Ty) → den r → List AV × List (Nat × Obj)
  | k, .pair (.olist t) b, y => (.own k 0 y.1.length :: (go (k + 1) b y.2).1, (k, .row t y.1 false) :: (go (k + 1) b y.2).2)
  | k, .pair t b, y => (ofV t y.1 :: (go (k + 1) b y.2).1, (go (k + 1) b y.2).2)
  | _, _, _ => ([], [])

def hasAny (H : Heap) : List (Nat × Obj) → Bool
  | [] => false
  | (k, _) :: ps => (hget H k).isSome || hasAny H ps

def callR (d : Nat) (H : Heap) (vs : List AV) (pre : Prop) (a r : Ty) (y : den r) : R :=
  if hasAny H (ofRes d r y).2 || !(flat r || noRef a) then .no else
  .ok pre (ofRes d r y).1 { frz := if flat r then [] else vs.flatMap (keysV H), put := (ofRes d r y).2 }

/-! ### calls that take over what is handed to them -/
/-- Data as cells; lists of one's own have keys from k on. -/
def cellsO : Nat → (t : Ty) → den t → List AV × List (Nat × Obj)
  | k, .olist t, xs => ([.own k 0 xs.length], [(k, .row t xs false)])
  | k, .pair a b, x => ((cellsO k a x.1).1 ++ (cellsO (k + (cellsO k a x.1).2.length) b x.2).1, (cellsO k a x.1).2 ++ (cellsO (k + (cellsO k a x.1).2.length) b x.2).2)
  | _, t, x => (cells t x, [])
def ofM : Nat → (t : Ty) → den t → AV × List (Nat × Obj)
  | k, .pair a b, x => (.agg (cellsO k (.pair a b) x).1, (cellsO k (.pair a b) x).2)
  | k, .olist t, xs => (.own k 0 xs.length, [(k, .row t xs false)])
  | _, t, x => (ofV t x, [])
def goM : Nat → (r : Ty) → den r → List AV × List (Nat × Obj)
  | k, .pair t b, y => ((ofM k t y.1).1 :: (goM (k + (ofM k t y.1).2.length) b y.2).1, (ofM k t y.1).2 ++ (goM (k + (ofM k t y.1).2.length) b y.2).2)
  | _, _, _ => ([], [])
def ofResM (k : Nat) : (r : Ty) → den r → AV × List (Nat × Obj)
  | .pair t .unit, y => ofM k t y.1
  | r, y => (.tup (goM k r y).1, (goM k r y).2)

/-- Values that name no key. -/
def free1 : AV → Bool
  | .int _ _ | .bool _ | .str _ | .sl _ _ _ | .el _ _ _ => true
  | _ => false
def freeA : AV → Bool
  | .agg cs => cs.all free1
  | v => free1 v
/-- Data out of cells; lists of one's own are taken: the data, the rows' keys, the rest. -/
def takeC (H : Heap) : (t : Ty) → List AV → Option (den t × List Nat × List AV)
  | .olist t, .own k lo n :: cs => match hget H k with
    | some (.row t' xs false) => match castL? t' t ((xs.drop lo).take n) with
      | some ys => some (ys, [k], cs)
      | none => none
    | _ => none
  | .olist _, _ => none
  | .unit, cs => some ((), [], cs)
  | .pair a b, cs => match takeC H a cs with
    | some (x, ks, cs1) => match takeC H b cs1 with
      | some (y, ks', cs2) => some ((x, y), ks ++ ks', cs2)
      | none => none
    | none => none
  | t, c :: cs => if free1 c && (noRef t && plain t) then match toCells H t [c] with
      | some (x, []) => some (x, [], cs)
      | _ => none
    else none
  | _, [] => none

/-- Arguments: the data, the rows that are taken, the boxes that are given back, those that are gone. -/
def takeM (H : Heap) : (a : Ty) → List Mk → List AV → Option (den a × List Nat × List Nat × List Nat)
  | .unit, [], [] => some ((), [], [], [])
  | .pair t b, .no :: ms, v :: vs => if freeA v && (noRef t && plain t) then match toV H t v with
      | some x => match takeM H b ms vs with
        | some (y, ks, bs, gs) => some ((x, y), ks, bs, gs)
        | none => none
      | none => none
    else none
  | .pair t b, .own :: ms, v :: vs => match takeC H t [v] with
    | some (x, ks, []) => match takeM H b ms vs with
      | some (y, ks', bs, gs) => some ((x, y), ks ++ ks', bs, gs)
      | none => none
    | _ => none
  | .pair (.ref t) b, .box :: ms, .ptr k 0 :: vs => match hget H k with
    | some (.box cs) => match takeC H t cs with
      | some (x, ks, []) => match takeM H b ms vs with
        | some (y, ks', bs, gs) => some ((x, y), ks ++ ks', k :: bs, gs)
        | none => none
      | _ => none
    | _ => none
  | .pair (.ref t) b, .gone :: ms, .ptr k 0 :: vs => match hget H k with
    | some (.box cs) => match takeC H t cs with
      | some (x, ks, []) => match takeM H b ms vs with
        | some (y, ks', bs, gs) => some ((x, y), ks ++ ks', bs, k :: gs)
        | none => none
      | _ => none
    | _ => none
  | _, _, _ => none

def okBx (bs : List Nat) (bk : Ty) : Bool := match bs with
  | [] => decide (bk = .unit)
  | [_] => true
  | _ => false
def callMR (H : Heap) (pre : Prop) (ks bs gs : List Nat) (bk : Ty) (res : AV × List (Nat × Obj)) (bc : List AV × List (Nat × Obj)) : R :=
  if (ks ++ (gs ++ bs)).Nodup ∧ ((res.2 ++ bc.2).map (·.1)).Nodup ∧ hasAny H (res.2 ++ bc.2) = false ∧ okBx bs bk = true then
    .ok pre res.1 { frz := [], del := ks ++ gs, put := (res.2 ++ bc.2) ++ bs.map fun k => (k, .box bc.1) }
  else .no
def callM (d : Nat) (fn : Fn) (ms : List Mk) (H : Heap) (vs : List AV) : R :=
  match takeM H fn.a ms vs with
  | some (x, ks, bs, gs) => callMR H (fn.pre x) ks bs gs fn.bk (ofResM (10000 + 100 * d) fn.r (fn.f x)) (cellsO (20000000 + 100 * d) fn.bk (fn.bf x))
  | none => .no

def callF (T : Tab) (d : Nat) (f : Nat) (H : Heap) (vs : List AV) : R :=
  match tget T f with
  | some fn => match fn.kd with
    | none => match toArgs T H fn.a vs with
      | some x => callR d H vs (fn.pre x) fn.a fn.r (fn.f x)
      | none => .no
    | some ms => callM d fn ms H vs
  | none => .no

def foldI (f : Int → Int → Int) : Int → List AV → Option Int
  | x, [] => some x
  | x, .int .i64 y :: vs => foldI f (f x y) vs
  | _, _ => none

def aggInts : List AV → Option (List Int)
  | [] => some []
  | .int .i64 n :: vs => match aggInts vs with
    | some l => some (n :: l)
    | none => none
  | _ => none

/-- the bounds of a slice expression: low, high, max (the length, where there is none) -/
def bounds (n : Nat) (lo hi mx : Bool) (vs : List AV) : Option (Int × Int × Int) :=
  match lo, hi, mx, vs with
  | false, false, false, [] => some (0, n, n)
  | true, false, false, [.int .i64 l] => some (l, n, n)
  | false, true, false, [.int .i64 h] => some (0, h, n)
  | true, true, false, [.int .i64 l, .int .i64 h] => some (l, h, n)
  | false, true, true, [.int .i64 h, .int .i64 m] => some (0, h, m)
  | true, true, true, [.int .i64 l, .int .i64 h, .int .i64 m] => some (l, h, m)
  | _, _, _, _ => none

def slcR (H : Heap) (S : Nat) (lo hi mx : Bool) : AV → List AV → R
  | .sl t xs full, vs => if size t = S then match bounds xs.length lo hi mx vs with
      | some (l, h, m) => .ok (0 ≤ l ∧ l ≤ h ∧ h ≤ m ∧ m ≤ xs.length)
        (.sl t ((xs.take h.toNat).drop l.toNat) (if mx then decide (h = m) else if hi then false else full)) {}
      | none => .no
    else .no
  | .own k lo0 n, vs => match hget H k with
    | some (.row t _ _) => if size t = S ∧ mx = false then match bounds n lo hi mx vs with
        | some (l, h, _) => .ok (0 ≤ l ∧ l ≤ h ∧ h ≤ n) (.own k (lo0 + l.toNat) (h.toNat - l.toNat)) {}
        | none => .no
      else .no
    | _ => .no
  | _, _ => .no

def slcsR (lo hi : Bool) : AV → List AV → R
  | .str s, vs => match bounds s.size lo hi false vs with
      | some (l, h, _) => .ok (0 ≤ l ∧ l ≤ h ∧ h ≤ s.size) (.str (s.extract l.toNat h.toNat)) {}
      | none => .no
  | _, _ => .no

def appR (d : Nat) (H : Heap) (S bytes : Nat) : AV → AV → R
  | .sl t xs true, x => if size t = S ∧ (hget H d).isNone then match slOf H t x with
      | some ys => .ok ((xs = [] ∨ ys ≠ []) ∧ xs.length + ys.length ≤ 140737488355328 ∧ (xs.length + ys.length) * bytes ≤ 140737488355328) (.own d 0 (xs.length + ys.length))
        { put := [(d, .row t (xs ++ ys) false)] }
      | none => .no
    else .no
  | .own k lo n, x => match hget H k with
    | some (.row t xs false) => if size t = S ∧ (k = d ∨ (hget H d).isNone) then match slOf H t x with
        | some ys => .ok (n + ys.length ≤ 140737488355328 ∧ (n + ys.length) * bytes ≤ 140737488355328) (.own d 0 (n + ys.length))
          { frz := [], del := [k], put := [(d, .row t ((xs.drop lo).take n ++ ys) false)] }
        | none => .no
      else .no
    | _ => .no
  | _, _ => .no

def idxR (H : Heap) (S : Nat) : AV → AV → R
  | .sl t xs _, .int _ i => if size t = S then .ok (0 ≤ i ∧ i < xs.length) (.el t (xs.getD i.toNat (dflt t)) 0) {} else .no
  | .own k lo n, .int _ i => match hget H k with
    | some (.row t _ _) => if size t = S then .ok (0 ≤ i ∧ i < n) (.rptr k (lo + i.toNat) 0) {} else .no
    | _ => .no
  | _, _ => .no

def loadR (H : Heap) (n : Nat) (agg : Bool) : AV → R
  | .ptr k off => match hget H k with
    | some (.box cs) => .ofCells agg (cut cs off n)
    | _ => .no
  | .rptr k i off => match hget H k with
    | some (.row t xs _) => .ofCells agg (cut (cells t (xs.getD i (dflt t))) off n)
    | _ => .no
  | .el t x off => .ofCells agg (cut (cells t x) off n)
  | _ => .no

def storeR (H : Heap) (n : Nat) : AV → AV → R
  | .ptr k off, v => if (cellsOf v).length = n ∧ (cellsOf v).all AV.one then match hget H k with
      | some (.box cs) => match lay cs off (cellsOf v) with
        | some cs => .ok True .undef { put := [(k, .box cs)] }
        | none => .no
      | _ => .no
    else .no
  | .rptr k i off, v => if (cellsOf v).length = n ∧ (cellsOf v).all AV.one then match hget H k with
      | some (.row t xs false) => if noRef t then match lay (cells t (xs.getD i (dflt t))) off (cellsOf v) with
        | some cs => match toCells H t cs with
          | some (x, []) => if (keysC (cellsOf v)).contains k then .no else .ok True .undef { frz := keysC (cellsOf v), put := [(k, .row t (xs.set i x) false)] }
          | _ => .no
        | none => .no
        else .no
      | _ => .no
    else .no
  | _, _ => .no

def fldR (o : Nat) : AV → R
  | .ptr k off => .ok True (.ptr k (off + o)) {}
  | .rptr k i off => .ok True (.rptr k i (off + o)) {}
  | .el t x off => .ok True (.el t x (off + o)) {}
  | _ => .no

def run (T : Tab) (d : Nat) (H : Heap) : K → List AV → R
  | .mv, [v] => .ok True v {}
  | .box, [v] => if (hget H d).isNone ∧ (cellsOf v).all AV.one then .ok True (.ptr d 0) { put := [(d, .box (cellsOf v))] } else .no
  | .alloc cs, [] => if (hget H d).isNone then .ok True (.ptr d 0) { put := [(d, .box cs)] } else .no
  | .allocA t n, [] => if (hget H d).isNone then .ok True (.rptr d 0 0) { put := [(d, .row t (List.replicate n (dflt t)) false)] } else .no
  | .load n agg, [p] => loadR H n agg p
  | .store n, [p, v] => storeR H n p v
  | .fld o, [p] => fldR o p
  | .idx S, [x, i] => idxR H S x i
  | .aidx S n, [.ptr k off, .int _ i] => .ok (0 ≤ i ∧ i < n) (.ptr k (off + i.toNat * S)) {}
  | .aidx S n, [.rptr k 0 0, .int _ i] => match hget H k with
    | some (.row t xs _) => if size t = S then .ok (0 ≤ i ∧ i < n ∧ i < xs.length) (.rptr k i.toNat 0) {} else .no
    | _ => .no
  | .bin op, [x, y] => bin op x y
  | .binb op, [.bool a, .bool b] => match op with
    | .eql => .ok True (.bool (a == b)) {}
    | .neq => .ok True (.bool (!(a == b))) {}
    | _ => .no
  | .bina op sh, [.agg xs, .agg ys] => match aggEq sh xs ys with
    | some r => match op with
      | .eql => .ok True (.bool r) {}
      | .neq => .ok True (.bool (!r)) {}
      | _ => .no
    | none => .no
  | .isnil, [.sl _ xs _] => .amb True fun b => xs ≠ [] → b = false
  | .neg, [.int k n] => arith .sub k 0 n
  | .not, [.bool b] => .ok True (.bool (!b)) {}
  | .build zs ps, vs => match layAll zs ps vs with
    | some cs => .ok True (.agg cs) {}
    | none => .no
  | .bslice t n, vs => if vs.length = n then match dataAll H t vs with
      | some xs => .ok True (.sl t xs true) { frz := vs.flatMap (keysV H) }
      | none => .no
    else .no
  | .mks t bytes, [.int .i64 l, .int .i64 c] => if (hget H d).isNone then
      .ok (0 ≤ l ∧ l ≤ c ∧ c ≤ 140737488355328 ∧ c * bytes ≤ 140737488355328) (.own d 0 l.toNat) { put := [(d, .row t (List.replicate l.toNat (dflt t)) false)] } else .no
  | .slc S lo hi mx, x :: vs => slcR H S lo hi mx x vs
  | .slcs lo hi, x :: vs => slcsR lo hi x vs
  | .len, [.sl _ xs _] => .ok True (.int .i64 xs.length) {}
  | .len, [.own _ _ n] => .ok True (.int .i64 n) {}
  | .lens, [.str s] => .ok True (.int .i64 s.size) {}
  | .app S b, [s, x] => appR d H S b s x
  | .mn, .int .i64 x :: vs => match foldI min x vs with
    | some n => .ok True (.int .i64 n) {}
    | none => .no
  | .mx, .int .i64 x :: vs => match foldI max x vs with
    | some n => .ok True (.int .i64 n) {}
    | none => .no
  | .ext i, [.tup vs] => match vs[i]? with
    | some v => .ok True v {}
    | none => .no
  | .call f, vs => callF T d f H vs
  | .callv, .clo f caps :: vs => callF T d f H (vs ++ caps)
  | .callv, .fv a r p :: vs => if okRes r then match toArgs T H a vs with
      | some x => callR d H vs True a r (p x)
      | none => .no
    else .no
  | .clo f, vs => .ok True (.clo f vs) {}
  | .nilchk, [v] => match v with
    | .ptr .. | .rptr .. | .el .. | .clo .. | .fv .. => .ok True v {}
    | _ => .no
  | .index S n, [.agg cs, .int _ i] => if S = 1 then match aggInts cs with
      | some l => .ok (0 ≤ i ∧ i < n ∧ l.length = n) (.int .i64 (l.getD i.toNat 0)) {}
      | none => .no
    else .no
  | .field off n agg, [.agg cs] => .ofCells agg (cut cs off n)
  | .mkm, [] => if (hget H d).isNone then .ok True (.mp d) { put := [(d, .mp [])] } else .no
  | .mget, [.mp k, .int .i64 x] => match hget H k with
    | some (.mp m) => .ok True (.tup [.int .i64 (mpGet m x), .bool (mpHas m x)]) {}
    | _ => .no
  | .mput, [.mp k, .int .i64 x, .int .i64 v] => match hget H k with
    | some (.mp m) => .ok (m.length ≤ 1048576) .undef { put := [(k, .mp (mpPut m x v))] }
    | _ => .no
  | _, _ => .no

/-! ### operations, code -/
inductive Opd where
  | t (n : Nat)
  | c (v : AV)

structure AOp where
  d : Option Nat
  k : K
  xs : List Opd
  gd : Option (Nat × Bool) := none

def Opd.val (e : Env) : Opd → AV
  | .t n => eget e n
  | .c v => v

def vals (e : Env) : List Opd → List AV
  | [] => []
  | x :: xs => x.val e :: vals e xs

/-- What a value says if it was made under a test. -/
def bare : AV → AV
  | .g _ v => v
  | v => v
def sure : AV → Prop
  | .g b _ => b = true
  | _ => True
def bareL : List AV → List AV
  | [] => []
  | v :: vs => bare v :: bareL vs
def sureL : List AV → Prop
  | [] => True
  | v :: vs => sure v ∧ sureL vs

def pickR : List AV → R
  | [c, a, b] => match bare c, bare a, bare b with
    | .bool z, .bool x, .bool y => .ok (sure c ∧ (z = true → sure a) ∧ (z = false → sure b)) (.bool (bif z then x else y)) {}
    | _, _, _ => .no
  | _ => .no

/-- One operation, no test ahead of it. -/
def run1 (T : Tab) (d : Nat) (H : Heap) (k : K) (vs : List AV) : R :=
  match k with
  | .pick => pickR vs
  | k => match run T d H k (bareL vs) with
    | .ok n v e => .ok (sureL vs ∧ n) v e
    | .amb n p => .amb (sureL vs ∧ n) p
    | .no => .no

/-- May it be done under a test that is not decided? -/
def Eff.quiet : Eff → Bool
  | ⟨_, [], []⟩ => true
  | _ => false

def actOf (want : Bool) : AV → Option Bool
  | .bool b => some (bif want then b else !b)
  | .g d (.bool b) => some (d && (bif want then b else !b))
  | _ => none

def ev (T : Tab) (o : AOp) (σ : St) : R :=
  match o.gd with
  | none => run1 T (o.d.getD 0) σ.heap o.k (vals σ.env o.xs)
  | some (t, want) => match actOf want (eget σ.env t) with
    | some act => match run1 T (o.d.getD 0) σ.heap o.k (vals σ.env o.xs) with
      | .ok n v e => match e.quiet with
        | true => .ok (act = true → n) (.g act v) e
        | false => .no
      | _ => .no
    | none => .no

def frzH : Heap → List Nat → Heap
  | H, [] => H
  | H, k :: ks => match hget H k with
    | some (.row t xs _) => frzH (hput H k (.row t xs true)) ks
    | _ => frzH H ks

mutual
def killV (k : Nat) : AV → AV
  | .own k' a b => if k' = k then .undef else .own k' a b
  | .ptr k' a => if k' = k then .undef else .ptr k' a
  | .pn k' a => if k' = k then .undef else .pn k' a
  | .mp k' => if k' = k then .undef else .mp k'
  | .rptr k' a b => if k' = k then .undef else .rptr k' a b
  | .agg cs => .agg (killL k cs)
  | .tup cs => .tup (killL k cs)
  | .clo f cs => .clo f (killL k cs)
  | .g b v => .g b (killV k v)
  | v => v
def killL (k : Nat) : List AV → List AV
  | [] => []
  | v :: vs => killV k v :: killL k vs
end
def killE (k : Nat) : Env → Env
  | [] => []
  | (i, v) :: e => (i, killV k v) :: killE k e
def killO (k : Nat) : Obj → Obj
  | .box cs => .box (killL k cs)
  | o => o
def killH (k : Nat) : Heap → Heap
  | [] => []
  | (i, o) :: h => (i, killO k o) :: killH k h

def St.kill (σ : St) : List Nat → St
  | [] => σ
  | k :: ks => St.kill ⟨killE k σ.env, killH k (hdel σ.heap k)⟩ ks

def putAll : Heap → List (Nat × Obj) → Heap
  | H, [] => H
  | H, (k, o) :: ps => putAll (hput H k o) ps

def setE (e : Env) : Option Nat → AV → Env
  | some d, v => (d, v) :: e
  | none, _ => e

def St.eff (σ : St) (e : Eff) : St :=
  ⟨(St.kill ⟨σ.env, frzH σ.heap e.frz⟩ e.del).env, putAll (St.kill ⟨σ.env, frzH σ.heap e.frz⟩ e.del).heap e.put⟩
def St.upd (σ : St) (d : Option Nat) (v : AV) (e : Eff) : St := ⟨setE (σ.eff e).env d v, (σ.eff e).heap⟩

inductive C where
  | skip
  | reg (ops : List AOp)
  | regd (ops : List AOp) (before : List Nat)
  | seq (a b : C)
  | cond (c : Opd) (a b : C)
  | block (id : Nat) (c : C)
  | loop (c : C)
  | exit (id : Nat)
  | ret
  | cut (c : C)

/-- The code without its marks. -/
def erase : C → C
  | .cut c => erase c
  | .seq a b => .seq (erase a) (erase b)
  | .cond o a b => .cond o (erase a) (erase b)
  | .block i c => .block i (erase c)
  | .loop c => .loop (erase c)
  | c => c

/-- A region's operations in the text's order; K: what is to hold behind them. -/
def R.bind : R → (Prop → AV → Eff → Prop) → Prop
  | .no, _ => False
  | .ok n v e, K => K n v e
  | .amb n p, K => n ∧ ∀ b, p b → K True (.bool b) {}

def evOps (T : Tab) : List AOp → St → (St → Prop) → Prop
  | [], σ, K => K σ
  | o :: os, σ, K => (ev T o σ).bind fun n v e => n ∧ evOps T os (σ.upd o.d v e) K

end Go.AM

set_option linter.constructorNameAsVariable false
namespace Go.AM

abbrev TyTab := List (Nat × Ty)
def ttget : TyTab → Nat → Option Ty
  | [], _ => none
  | (i, v) :: e, j => if i = j then some v else ttget e j

/-- the zero cells of a type of data -/
def zcells : Ty → List AV
  | .int k => [.int k 0]
  | .bool => [.bool false]
  | .str => [.str ⟨#[]⟩]
  | .list t => [.sl t [] true]
  | .olist t => [.sl t [] true]
  | .flist t => [.sl t [] true]
  | .unit => []
  | .pair a b => zcells a ++ zcells b
  | .fn _ _ => [.nilf]
  | .ref _ => [.undef]

/-- is this value the zero of that cell? -/
def zeroIs : AV → Value → Bool
  | .int k 0, .int k' 0 => k == k'
  | .bool false, .bool false => true
  | .str s, .string s' => s.size == 0 && s'.size == 0
  | .sl _ [] true, .slice none 0 0 => true
  | .nilf, .nilFunc => true
  | .undef, _ => true
  | _, _ => false
def zerosAre : List AV → List Value → Bool
  | [], [] => true
  | a :: as, v :: vs => zeroIs a v && zerosAre as vs
  | _, _ => false

def zeroOf (P : Program) (t : TypeId) : List Value := match P.info? t with
  | some i => match i.zero with
    | some v => v.cells.toList
    | none => []
  | none => []
def hasZero (P : Program) (t : TypeId) : Bool := match P.info? t with
  | some i => i.zero.isSome
  | none => false

/-- does the program's type t lie in memory as ty does? -/
def fits (P : Program) : Ty → TypeId → Bool
  | .int k, t => match P.underlying t with
    | some (.int k') => k == k' && P.cellsOf t == 1 && hasZero P t && zerosAre [.int k 0] (zeroOf P t)
    | _ => false
  | .bool, t => match P.underlying t with
    | some .bool => P.cellsOf t == 1 && hasZero P t && zerosAre [.bool false] (zeroOf P t)
    | _ => false
  | .str, t => match P.underlying t with
    | some .string => P.cellsOf t == 1 && hasZero P t && zerosAre [.str ⟨#[]⟩] (zeroOf P t)
    | _ => false
  | .list ty, t => match P.underlying t with
    | some (.slice e) => fits P ty e && P.cellsOf t == 1 && hasZero P t && zerosAre [.sl ty [] true] (zeroOf P t)
    | _ => false
  | .pair a b, t => match P.underlying t with
    | some (.struct fs) => fitsFs P (.pair a b) fs.toList 0 && P.cellsOf t == size (.pair a b) && hasZero P t && zerosAre (zcells (.pair a b)) (zeroOf P t)
    | _ => false
  | _, _ => false
where
  fitsFs (P : Program) : Ty → List Field → Nat → Bool
  | .unit, [], _ => true
  | .pair a b, f :: fs, off => f.offset == off && fits P a f.type && fitsFs P b fs (off + size a)
  | _, _, _ => false

def isAggB (P : Program) (t : TypeId) : Bool := match P.underlying t with
  | some (.struct _) => true
  | some (.array _ _) => true
  | _ => false

section
variable (P : Program) (TT : TyTab) (N : Nat) (rowAt : List Nat)

def compOpd (t : TypeId) : Operand → Option Opd
  | .tmp n => if n < N then some (.t n) else none
  | .const (.int k n) => some (.c (.int k n))
  | .const (.bool b) => some (.c (.bool b))
  | .const (.string s) => some (.c (.str s))
  | .const (.slice none 0 0) => match P.underlying t with
    | some (.slice e) => match ttget TT e with
      | some ty => if plain ty && decide (0 < size ty) then some (.c (.sl ty [] true)) else none
      | none => none
    | _ => none
  | .const .nilFunc => some (.c .nilf)
  | .func f => some (.c (.clo f []))
  | _ => none

def compArgs : List TypeId → List Operand → Option (List Opd)
  | _, [] => some []
  | t :: ts, x :: xs => match compOpd P TT N t x with
    | some o => match compArgs ts xs with
      | some os => some (o :: os)
      | none => none
    | none => none
  | [], x :: xs => match compOpd P TT N 0 x with
    | some o => match compArgs [] xs with
      | some os => some (o :: os)
      | none => none
    | none => none

/-- cells of a zero value, for a variable -/
def compZero (t : TypeId) : Option (List AV) := match ttget TT t with
  | some ty => if plain ty && hasZero P t && zerosAre (zcells ty) (zeroOf P t) then some (zcells ty) else none
  | none => if hasZero P t then some ((zeroOf P t).map fun
      | .int k 0 => .int k 0
      | .bool false => .bool false
      | .slice none 0 0 => .undef
      | .nilFunc => .nilf
      | _ => .undef) else none

def elemOfArr (t : TypeId) : Option (Nat × TypeId) := match P.underlying t with
  | some (.array n e) => some (n, e)
  | _ => none
def elemOfSl (t : TypeId) : Option TypeId := match P.underlying t with
  | some (.slice e) => some e
  | _ => none
def fieldOf (t : TypeId) (i : Nat) : Option Field := match P.underlying t with
  | some (.struct fs) => fs[i]?
  | _ => none

def scOf (t : TypeId) : Option Sc := match P.underlying t with
  | some (.int _) => some .i
  | some .bool => some .b
  | some .string => some .s
  | _ => none

/-- values of this type are compared cell by cell: of which kinds? -/
def flds : List Field → Nat → Option (List Sc)
  | [], _ => some []
  | f :: fs, off => match scOf P f.type, flds fs (off + 1) with
    | some s, some r => if f.offset = off ∧ f.name ≠ "_" then some (s :: r) else none
    | _, _ => none
def shapeOf (t : TypeId) : Option (List Sc) :=
  match P.underlying t with
  | some (.array n e) => if P.cellsOf e = 1 ∧ P.eqGuardType P.depth t = false then (scOf P e).map fun s => List.replicate n s else none
  | some (.struct fs) => if P.stoodInHeld t = false ∧ P.eqGuardType P.depth t = false then flds P fs.toList 0 else none
  | _ => none

def partsOf (t : TypeId) : List (Nat × Operand) → Option (List (Nat × Nat) × List Opd)
  | [] => some ([], [])
  | (i, x) :: ps => match partsOf t ps with
    | some (qs, os) => match P.underlying t with
      | some (.struct fs) => match fs[i]? with
        | some f => match compOpd P TT N f.type x with
          | some o => some ((f.offset, P.cellsOf f.type) :: qs, o :: os)
          | none => none
        | none => none
      | some (.array _ e) => match compOpd P TT N e x with
        | some o => some ((i * P.cellsOf e, P.cellsOf e) :: qs, o :: os)
        | none => none
      | _ => none
    | none => none

/-- are the sizes of a struct's fields, of an array's elements known? -/
def partsKnown (t : TypeId) : Bool := match P.underlying t with
  | some (.struct fs) => fs.all fun f => (P.info? f.type).isSome
  | some (.array _ e) => (P.info? e).isSome
  | _ => false

def inOrder : Nat → List (Nat × Operand) → Bool
  | _, [] => true
  | i, (j, _) :: ps => i == j && inOrder (i + 1) ps

def zeroI64 (t : TypeId) : Bool := match P.info? t with
  | some i => match i.zero with
    | some (.int .i64 0) => true
    | _ => false
  | none => false
/-- a map of numbers by numbers -/
def mapInts (t : TypeId) : Option (TypeId × TypeId) := match P.underlying t with
  | some (.map kt et) => match P.underlying kt with
    | some (.int .i64) => if zeroI64 P et then some (kt, et) else none
    | _ => none
  | _ => none

def isEqOp : BinOp → Bool
  | .eql | .neq => true
  | _ => false

def compK (o : Oper) : Option (K × List Opd) :=
  match o.op with
  | .move x | .assign x => match compOpd P TT N o.type x with
    | some x => some (.mv, [x])
    | none => none
  | .pick c a b => match compArgs P TT N [] [c, a, b] with
    | some xs => some (.pick, xs)
    | none => none
  | .box t x => match compOpd P TT N t x with
    | some x => some (.box, [x])
    | none => none
  | .alloc t => if rowAt.contains (o.dst.getD 0) then match elemOfArr P t with
      | some (n, e) => match ttget TT e with
        | some ty => if plain ty && noRef ty && 0 < size ty && 0 < n && n ≤ 1048576 && hasZero P t && zerosAre ((List.replicate n (zcells ty)).flatten) (zeroOf P t) then some (.allocA ty n, []) else none
        | none => none
      | none => none
    else match compZero P TT t with
      | some cs => some (.alloc cs, [])
      | none => none
  | .load t a => match compOpd P TT N 0 a with
    | some x => if isAggB P t then some (.load (P.cellsOf t) true, [x]) else if (P.underlying t).isSome then some (.load 1 false, [x]) else none
    | none => none
  | .store t a v => match compOpd P TT N 0 a, compOpd P TT N t v with
    | some x, some y => if 0 < P.cellsOf t then some (.store (P.cellsOf t), [x, y]) else none
    | _, _ => none
  | .fieldAddr s x i => match fieldOf P s i, compOpd P TT N 0 x with
    | some f, some x => if 0 < P.cellsOf f.type then some (.fld f.offset, [x]) else none
    | _, _ => none
  | .indexAddr t x i => match compOpd P TT N 0 x, compOpd P TT N 0 i with
    | some x, some i => match P.underlying t with
      | some (.slice e) => some (.idx (P.cellsOf e), [x, i])
      | some (.array n e) => if 0 < P.cellsOf e then some (.aidx (P.cellsOf e) n, [x, i]) else none
      | _ => none
    | _, _ => none
  | .binOp op t x y _ => match compOpd P TT N 0 x, compOpd P TT N 0 y with
    | some x, some y => match P.underlying t with
      | some (.int _) => some (.bin op, [x, y])
      | some .string => some (.bin op, [x, y])
      | some .bool => if isEqOp op then some (.binb op, [x, y]) else none
      | _ => match shapeOf P t with
        | some sh => if isEqOp op then some (.bina op sh, [x, y]) else none
        | none => none
    | some x, none => match P.underlying t, op, y with
      | some (.slice _), .eql, .const (.slice none 0 0) => some (.isnil, [x])
      | _, _, _ => none
    | _, _ => none
  | .unOp .neg _ x => match compOpd P TT N 0 x with
    | some x => some (.neg, [x])
    | none => none
  | .unOp .not _ x => match compOpd P TT N 0 x with
    | some x => some (.not, [x])
    | none => none
  | .build t ps => match compZero P TT t, partsOf P TT N t ps.toList with
    | some zs, some (qs, os) => if partsKnown P t then some (.build zs qs, os) else none
    | _, _ => none
  | .buildSlice t n ps => match elemOfSl P t with
    | some e => match ttget TT e with
      | some ty => if plain ty && noRef ty && inOrder 0 ps.toList && ps.size == n && P.cellsOf e == size ty && n * size ty ≤ 16777216 && 0 < size ty && hasZero P e then
          match compArgs P TT N (List.replicate n e) (ps.toList.map (·.2)) with
          | some os => some (.bslice ty n, os)
          | none => none
        else none
      | none => none
    | none => none
  | .makeSlice t l c => match elemOfSl P t with
    | some e => match ttget TT e with
      | some ty => match compOpd P TT N 0 l, compOpd P TT N 0 c with
        | some l, some c => if plain ty && noRef ty && P.cellsOf e == size ty && 0 < size ty && hasZero P e && zerosAre (zcells ty) (zeroOf P e) then some (.mks ty (P.bytesOf e), [l, c]) else none
        | _, _ => none
      | none => none
    | none => none
  | .slice t x lo hi mx => match compOpd P TT N 0 x, compArgs P TT N [] (lo.toList ++ hi.toList ++ mx.toList) with
    | some x, some os => match P.underlying t with
      | some (.slice e) => some (.slc (P.cellsOf e) lo.isSome hi.isSome mx.isSome, x :: os)
      | some .string => if mx.isSome then none else some (.slcs lo.isSome hi.isSome, x :: os)
      | _ => none
    | _, _ => none
  | .extract x i => match compOpd P TT N 0 x with
    | some x => some (.ext i, [x])
    | none => none
  | .nilCheck x => match compOpd P TT N 0 x with
    | some x => some (.nilchk, [x])
    | none => none
  | .makeFunc (.func f) first caps => if first.size = 0 then match compArgs P TT N [] caps.toList with
      | some os => some (.clo f, os)
      | none => none
    else none
  | .index t x i => match P.underlying t with
    | some (.array n e) => match compOpd P TT N 0 x, compOpd P TT N 0 i with
      | some x, some i => if !isAggB P e && (P.underlying e).isSome then some (.index (P.cellsOf e) n, [x, i]) else none
      | _, _ => none
    | _ => none
  | .field t x i => match fieldOf P t i, compOpd P TT N 0 x with
    | some f, some x => if (P.underlying f.type).isSome then some (.field f.offset (if isAggB P f.type then P.cellsOf f.type else 1) (isAggB P f.type), [x]) else none
    | _, _ => none
  | .call c => match c.callee with
    | .builtin .len => match c.argTypes.toList with
      | [t] => match compArgs P TT N [t] c.args.toList, P.underlying t with
        | some xs, some (.slice _) => some (.len, xs)
        | some xs, some .string => some (.lens, xs)
        | _, _ => none
      | _ => none
    | .builtin .append => match c.argTypes.toList with
      | [t, t'] => match elemOfSl P t, compArgs P TT N [t, t'] c.args.toList with
        | some e, some xs => if t = t' ∧ 0 < P.cellsOf e ∧ hasZero P e = true ∧ (zeroOf P e).length = P.cellsOf e then some (.app (P.cellsOf e) (P.bytesOf e), xs) else none
        | _, _ => none
      | _ => none
    | .builtin .min => match compArgs P TT N [] c.args.toList with
      | some xs => some (.mn, xs)
      | none => none
    | .builtin .max => match compArgs P TT N [] c.args.toList with
      | some xs => some (.mx, xs)
      | none => none
    | .value (.func f) => match P.funcs[f]? with
      | some fn => if fn.name != "runtime.NumGoroutine" && fn.body.isSome then match compArgs P TT N c.argTypes.toList c.args.toList with
          | some xs => some (.call f, xs)
          | none => none
        else none
      | none => none
    | .value (.tmp t) => match compArgs P TT N (0 :: c.argTypes.toList) (.tmp t :: c.args.toList) with
      | some xs => some (.callv, xs)
      | none => none
    | _ => none
  | .makeMap _ none => some (.mkm, [])
  | .lookup t x i true => match mapInts P t, compOpd P TT N 0 x, compOpd P TT N 0 i with
    | some _, some x, some i => some (.mget, [x, i])
    | _, _, _ => none
  | .mapUpdate t m x v => match mapInts P t, compOpd P TT N 0 m, compOpd P TT N 0 x, compOpd P TT N 0 v with
    | some _, some m, some x, some v => some (.mput, [m, x, v])
    | _, _, _, _ => none
  | _ => none

def dstOk (N : Nat) : Option Nat → Bool
  | some d => decide (d < N)
  | none => true

def compOp (ops : Array Oper) (o : Oper) : Option AOp :=
  match compK P TT N rowAt o with
  | none => none
  | some (k, xs) =>
    if dstOk N o.dst then
      match o.guard with
      | none => some ⟨o.dst, k, xs, none⟩
      | some (j, want) => match ops[j]? with
        | some oj => match oj.dst with
          | some t => if t < N then some ⟨o.dst, k, xs, some (t, want)⟩ else none
          | none => none
        | none => none
    else none

def compOps (ops : Array Oper) : List Oper → Option (List AOp)
  | [] => some []
  | o :: os => match compOp P TT N rowAt ops o with
    | some x => match compOps ops os with
      | some xs => some (x :: xs)
      | none => none
    | none => none

def edgesOf (o : Oper) : List Nat := (o.after.toList.filter (Region.binds .any)).map (·.on)

def compC : Code → Option C
  | .skip => some .skip
  | .label _ => some .skip
  | .region _ ops false => match compOps P TT N rowAt ops ops.toList with
    | some xs => some (.reg xs)
    | none => none
  | .region _ ops true => match compOps P TT N rowAt ops ops.toList with
    | some xs => some (.regd xs (ops.toList.map fun o => (edgesOf o).foldl (fun s j => s ||| 2 ^ j) 0))
    | none => none
  | .seq a b => match compC a, compC b with
    | some x, some y => some (.seq x y)
    | _, _ => none
  | .cond c a b => match compOpd P TT N 0 c, compC a, compC b with
    | some o, some x, some y => some (.cond o x y)
    | _, _, _ => none
  | .block id c => match compC c with
    | some x => some (.block id x)
    | none => none
  | .loop c => match compC c with
    | some x => some (.loop x)
    | none => none
  | .scope c => compC c
  | .exit id => some (.exit id)
  | .ret => some .ret
  | _ => none
end

end Go.AM

namespace Go.AM
@[reducible] def tI : Ty := .int .i64
@[reducible] def tEntry : Ty := .pair tI (.pair .str .unit)
@[reducible] def tHard : Ty := .pair tI (.pair tI (.pair tI (.pair tI (.pair .str (.pair (.list tEntry) .unit)))))
@[reducible] def tNode : Ty := .pair tI (.pair tI (.pair tI (.pair tI (.pair tI (.pair tI (.pair .str (.pair (.list tEntry) (.pair tI (.pair tI (.pair tI (.pair (.list .bool) (.pair (.list tI) (.pair (.list tI) (.pair tI .unit))))))))))))))
@[reducible] def tMsg : Ty := .pair tI (.pair tI (.pair tI (.pair tI (.pair tI (.pair tI (.pair .bool (.pair tI (.pair (.list tEntry) (.pair .str .unit)))))))))
@[reducible] def tNet : Ty := .pair (.list tNode) (.pair (.list tMsg) .unit)
def ttL : TyTab := [(3, tI), (4, .bool), (9, .str), (80, tI), (22, .list tI), (23, .list tEntry), (24, .list .bool), (26, tNode), (31, tMsg), (33, .list tMsg), (51, tEntry), (66, tHard), (72, .list (.list tI)), (86, .list tNode), (88, tNet)]
end Go.AM
