import Derived.Test.YtbcbgfkojmligaaACore
/- Part of an abstract machine for Go code and of its soundness, for any program of the model; no condition. -/
set_option linter.unusedVariables false
set_option linter.unusedSimpArgs false
set_option linter.constructorNameAsVariable false
namespace Go.AM

abbrev TyTab := List (Nat × Ty)
def ttget : TyTab → Nat → Option Ty
  | [], _ => none
  | (i, v) :: e, j => if i = j then some v else ttget e j

/-- the zero cells of a type of data -/
def zcells : Ty → List AV
  | .int k => [.int k 0]
  | .bool => [.bool false]
  | .str => [.str ⟨#[]⟩]
  | .list t => [.sl t [] true]
  | .olist t => [.sl t [] true]
  | .unit => []
  | .pair a b => zcells a ++ zcells b
  | .fn _ _ => [.undef]
  | .ref _ => [.undef]

/-- is this value the zero of that cell? -/
def zeroIs : AV → Value → Bool
  | .int k 0, .int k' 0 => k == k'
  | .bool false, .bool false => true
  | .str s, .string s' => s.size == 0 && s'.size == 0
  | .sl _ [] true, .slice none 0 0 => true
  | .undef, _ => true
  | _, _ => false
def zerosAre : List AV → List Value → Bool
  | [], [] => true
  | a :: as, v :: vs => zeroIs a v && zerosAre as vs
  | _, _ => false

def zeroOf (P : Program) (t : TypeId) : List Value := match P.info? t with
  | some i => match i.zero with
    | some v => v.cells.toList
    | none => []
  | none => []
def hasZero (P : Program) (t : TypeId) : Bool := match P.info? t with
  | some i => i.zero.isSome
  | none => false

/-- does the program's type t lie in memory as ty does? -/
def fits (P : Program) : Ty → TypeId → Bool
  | .int k, t => match P.underlying t with
    | some (.int k') => k == k' && P.cellsOf t == 1 && hasZero P t && zerosAre [.int k 0] (zeroOf P t)
    | _ => false
  | .bool, t => match P.underlying t with
    | some .bool => P.cellsOf t == 1 && hasZero P t && zerosAre [.bool false] (zeroOf P t)
    | _ => false
  | .str, t => match P.underlying t with
    | some .string => P.cellsOf t == 1 && hasZero P t && zerosAre [.str ⟨#[]⟩] (zeroOf P t)
    | _ => false
  | .list ty, t => match P.underlying t with
    | some (.slice e) => fits P ty e && P.cellsOf t == 1 && hasZero P t && zerosAre [.sl ty [] true] (zeroOf P t)
    | _ => false
  | .pair a b, t => match P.underlying t with
    | some (.struct fs) => fitsFs P (.pair a b) fs.toList 0 && P.cellsOf t == size (.pair a b) && hasZero P t && zerosAre (zcells (.pair a b)) (zeroOf P t)
    | _ => false
  | _, _ => false
where
  fitsFs (P : Program) : Ty → List Field → Nat → Bool
  | .unit, [], _ => true
  | .pair a b, f :: fs, off => f.offset == off && fits P a f.type && fitsFs P b fs (off + size a)
  | _, _, _ => false

def isAggB (P : Program) (t : TypeId) : Bool := match P.underlying t with
  | some (.struct _) => true
  | some (.array _ _) => true
  | _ => false

section
variable (P : Program) (TT : TyTab) (N : Nat) (rowAt : List Nat)

def compOpd (t : TypeId) : Operand → Option Opd
  | .tmp n => if n < N then some (.t n) else none
  | .const (.int k n) => some (.c (.int k n))
  | .const (.bool b) => some (.c (.bool b))
  | .const (.string s) => some (.c (.str s))
  | .const (.slice none 0 0) => match P.underlying t with
    | some (.slice e) => match ttget TT e with
      | some ty => if plain ty && decide (0 < size ty) then some (.c (.sl ty [] true)) else none
      | none => none
    | _ => none
  | .const .nilFunc => some (.c .undef)
  | .func f => some (.c (.clo f []))
  | _ => none

def compArgs : List TypeId → List Operand → Option (List Opd)
  | _, [] => some []
  | t :: ts, x :: xs => match compOpd P TT N t x with
    | some o => match compArgs ts xs with
      | some os => some (o :: os)
      | none => none
    | none => none
  | [], x :: xs => match compOpd P TT N 0 x with
    | some o => match compArgs [] xs with
      | some os => some (o :: os)
      | none => none
    | none => none

/-- cells of a zero value, for a variable -/
def compZero (t : TypeId) : Option (List AV) := match ttget TT t with
  | some ty => if plain ty && hasZero P t && zerosAre (zcells ty) (zeroOf P t) then some (zcells ty) else none
  | none => if hasZero P t then some ((zeroOf P t).map fun
      | .int k 0 => .int k 0
      | .bool false => .bool false
      | .slice none 0 0 => .undef
      | _ => .undef) else none

def elemOfArr (t : TypeId) : Option (Nat × TypeId) := match P.underlying t with
  | some (.array n e) => some (n, e)
  | _ => none
def elemOfSl (t : TypeId) : Option TypeId := match P.underlying t with
  | some (.slice e) => some e
  | _ => none
def fieldOf (t : TypeId) (i : Nat) : Option Field := match P.underlying t with
  | some (.struct fs) => fs[i]?
  | _ => none

def scOf (t : TypeId) : Option Sc := match P.underlying t with
  | some (.int _) => some .i
  | some .bool => some .b
  | some .string => some .s
  | _ => none

/-- values of this type are compared cell by cell: of which kinds? -/
def flds : List Field → Nat → Option (List Sc)
  | [], _ => some []
  | f :: fs, off => match scOf P f.type, flds fs (off + 1) with
    | some s, some r => if f.offset = off ∧ f.name ≠ "_" then some (s :: r) else none
    | _, _ => none
def shapeOf (t : TypeId) : Option (List Sc) :=
  match P.underlying t with
  | some (.array n e) => if P.cellsOf e = 1 ∧ P.eqGuardType P.depth t = false then (scOf P e).map fun s => List.replicate n s else none
  | some (.struct fs) => if P.stoodInHeld t = false ∧ P.eqGuardType P.depth t = false then flds P fs.toList 0 else none
  | _ => none

def partsOf (t : TypeId) : List (Nat × Operand) → Option (List (Nat × Nat) × List Opd)
  | [] => some ([], [])
  | (i, x) :: ps => match partsOf t ps with
    | some (qs, os) => match P.underlying t with
      | some (.struct fs) => match fs[i]? with
        | some f => match compOpd P TT N f.type x with
          | some o => some ((f.offset, P.cellsOf f.type) :: qs, o :: os)
          | none => none
        | none => none
      | some (.array _ e) => match compOpd P TT N e x with
        | some o => some ((i * P.cellsOf e, P.cellsOf e) :: qs, o :: os)
        | none => none
      | _ => none
    | none => none

/-- are the sizes of a struct's fields, of an array's elements known? -/
def partsKnown (t : TypeId) : Bool := match P.underlying t with
  | some (.struct fs) => fs.all fun f => (P.info? f.type).isSome
  | some (.array _ e) => (P.info? e).isSome
  | _ => false

def inOrder : Nat → List (Nat × Operand) → Bool
  | _, [] => true
  | i, (j, _) :: ps => i == j && inOrder (i + 1) ps

def isEqOp : BinOp → Bool
  | .eql | .neq => true
  | _ => false

def compK (o : Oper) : Option (K × List Opd) :=
  match o.op with
  | .move x | .assign x => match compOpd P TT N o.type x with
    | some x => some (.mv, [x])
    | none => none
  | .pick c a b => match compArgs P TT N [] [c, a, b] with
    | some xs => some (.pick, xs)
    | none => none
  | .box t x => match compOpd P TT N t x with
    | some x => some (.box, [x])
    | none => none
  | .alloc t => if rowAt.contains (o.dst.getD 0) then match elemOfArr P t with
      | some (n, e) => match ttget TT e with
        | some ty => if plain ty && noRef ty && 0 < size ty && 0 < n && n ≤ 1048576 && hasZero P t && zerosAre ((List.replicate n (zcells ty)).flatten) (zeroOf P t) then some (.allocA ty n, []) else none
        | none => none
      | none => none
    else match compZero P TT t with
      | some cs => some (.alloc cs, [])
      | none => none
  | .load t a => match compOpd P TT N 0 a with
    | some x => if isAggB P t then some (.load (P.cellsOf t) true, [x]) else if (P.underlying t).isSome then some (.load 1 false, [x]) else none
    | none => none
  | .store t a v => match compOpd P TT N 0 a, compOpd P TT N t v with
    | some x, some y => if 0 < P.cellsOf t then some (.store (P.cellsOf t), [x, y]) else none
    | _, _ => none
  | .fieldAddr s x i => match fieldOf P s i, compOpd P TT N 0 x with
    | some f, some x => if 0 < P.cellsOf f.type then some (.fld f.offset, [x]) else none
    | _, _ => none
  | .indexAddr t x i => match compOpd P TT N 0 x, compOpd P TT N 0 i with
    | some x, some i => match P.underlying t with
      | some (.slice e) => some (.idx (P.cellsOf e), [x, i])
      | some (.array n e) => if 0 < P.cellsOf e then some (.aidx (P.cellsOf e) n, [x, i]) else none
      | _ => none
    | _, _ => none
  | .binOp op t x y _ => match compOpd P TT N 0 x, compOpd P TT N 0 y with
    | some x, some y => match P.underlying t with
      | some (.int _) => some (.bin op, [x, y])
      | some .string => some (.bin op, [x, y])
      | some .bool => if isEqOp op then some (.binb op, [x, y]) else none
      | _ => match shapeOf P t with
        | some sh => if isEqOp op then some (.bina op sh, [x, y]) else none
        | none => none
    | some x, none => match P.underlying t, op, y with
      | some (.slice _), .eql, .const (.slice none 0 0) => some (.isnil, [x])
      | _, _, _ => none
    | _, _ => none
  | .unOp .neg _ x => match compOpd P TT N 0 x with
    | some x => some (.neg, [x])
    | none => none
  | .unOp .not _ x => match compOpd P TT N 0 x with
    | some x => some (.not, [x])
    | none => none
  | .build t ps => match compZero P TT t, partsOf P TT N t ps.toList with
    | some zs, some (qs, os) => if partsKnown P t then some (.build zs qs, os) else none
    | _, _ => none
  | .buildSlice t n ps => match elemOfSl P t with
    | some e => match ttget TT e with
      | some ty => if plain ty && noRef ty && inOrder 0 ps.toList && ps.size == n && P.cellsOf e == size ty && n * size ty ≤ 16777216 && 0 < size ty && hasZero P e then
          match compArgs P TT N (List.replicate n e) (ps.toList.map (·.2)) with
          | some os => some (.bslice ty n, os)
          | none => none
        else none
      | none => none
    | none => none
  | .makeSlice t l c => match elemOfSl P t with
    | some e => match ttget TT e with
      | some ty => match compOpd P TT N 0 l, compOpd P TT N 0 c with
        | some l, some c => if plain ty && noRef ty && P.cellsOf e == size ty && 0 < size ty && hasZero P e && zerosAre (zcells ty) (zeroOf P e) then some (.mks ty (P.bytesOf e), [l, c]) else none
        | _, _ => none
      | none => none
    | none => none
  | .slice t x lo hi mx => match compOpd P TT N 0 x, compArgs P TT N [] (lo.toList ++ hi.toList ++ mx.toList) with
    | some x, some os => match P.underlying t with
      | some (.slice e) => some (.slc (P.cellsOf e) lo.isSome hi.isSome mx.isSome, x :: os)
      | some .string => if mx.isSome then none else some (.slcs lo.isSome hi.isSome, x :: os)
      | _ => none
    | _, _ => none
  | .extract x i => match compOpd P TT N 0 x with
    | some x => some (.ext i, [x])
    | none => none
  | .nilCheck x => match compOpd P TT N 0 x with
    | some x => some (.nilchk, [x])
    | none => none
  | .makeFunc (.func f) first caps => if first.size = 0 then match compArgs P TT N [] caps.toList with
      | some os => some (.clo f, os)
      | none => none
    else none
  | .index t x i => match P.underlying t with
    | some (.array n e) => match compOpd P TT N 0 x, compOpd P TT N 0 i with
      | some x, some i => if !isAggB P e && (P.underlying e).isSome then some (.index (P.cellsOf e) n, [x, i]) else none
      | _, _ => none
    | _ => none
  | .field t x i => match fieldOf P t i, compOpd P TT N 0 x with
    | some f, some x => if (P.underlying f.type).isSome then some (.field f.offset (if isAggB P f.type then P.cellsOf f.type else 1) (isAggB P f.type), [x]) else none
    | _, _ => none
  | .call c => match c.callee with
    | .builtin .len => match c.argTypes.toList with
      | [t] => match compArgs P TT N [t] c.args.toList, P.underlying t with
        | some xs, some (.slice _) => some (.len, xs)
        | some xs, some .string => some (.lens, xs)
        | _, _ => none
      | _ => none
    | .builtin .append => match c.argTypes.toList with
      | [t, t'] => match elemOfSl P t, compArgs P TT N [t, t'] c.args.toList with
        | some e, some xs => if t = t' ∧ 0 < P.cellsOf e ∧ hasZero P e = true ∧ (zeroOf P e).length = P.cellsOf e then some (.app (P.cellsOf e) (P.bytesOf e), xs) else none
        | _, _ => none
      | _ => none
    | .builtin .min => match compArgs P TT N [] c.args.toList with
      | some xs => some (.mn, xs)
      | none => none
    | .builtin .max => match compArgs P TT N [] c.args.toList with
      | some xs => some (.mx, xs)
      | none => none
    | .value (.func f) => match P.funcs[f]? with
      | some fn => if fn.name != "runtime.NumGoroutine" && fn.body.isSome then match compArgs P TT N c.argTypes.toList c.args.toList with
          | some xs => some (.call f, xs)
          | none => none
        else none
      | none => none
    | .value (.tmp t) => match compArgs P TT N (0 :: c.argTypes.toList) (.tmp t :: c.args.toList) with
      | some xs => some (.callv, xs)
      | none => none
    | _ => none
  | _ => none

def dstOk (N : Nat) : Option Nat → Bool
  | some d => decide (d < N)
  | none => true

def compOp (ops : Array Oper) (o : Oper) : Option AOp :=
  match compK P TT N rowAt o with
  | none => none
  | some (k, xs) =>
    if dstOk N o.dst then
      match o.guard with
      | none => some ⟨o.dst, k, xs, none⟩
      | some (j, want) => match ops[j]? with
        | some oj => match oj.dst with
          | some t => if t < N then some ⟨o.dst, k, xs, some (t, want)⟩ else none
          | none => none
        | none => none
    else none

def compOps (ops : Array Oper) : List Oper → Option (List AOp)
  | [] => some []
  | o :: os => match compOp P TT N rowAt ops o with
    | some x => match compOps ops os with
      | some xs => some (x :: xs)
      | none => none
    | none => none

def edgesOf (o : Oper) : List Nat := (o.after.toList.filter (Region.binds .any)).map (·.on)

def compC : Code → Option C
  | .skip => some .skip
  | .label _ => some .skip
  | .region _ ops false => match compOps P TT N rowAt ops ops.toList with
    | some xs => some (.reg xs)
    | none => none
  | .region _ ops true => match compOps P TT N rowAt ops ops.toList with
    | some xs => some (.regd xs (ops.toList.map fun o => (edgesOf o).foldl (fun s j => s ||| 2 ^ j) 0))
    | none => none
  | .seq a b => match compC a, compC b with
    | some x, some y => some (.seq x y)
    | _, _ => none
  | .cond c a b => match compOpd P TT N 0 c, compC a, compC b with
    | some o, some x, some y => some (.cond o x y)
    | _, _, _ => none
  | .block id c => match compC c with
    | some x => some (.block id x)
    | none => none
  | .loop c => match compC c with
    | some x => some (.loop x)
    | none => none
  | .scope c => compC c
  | .exit id => some (.exit id)
  | .ret => some .ret
  | _ => none
end

end Go.AM
