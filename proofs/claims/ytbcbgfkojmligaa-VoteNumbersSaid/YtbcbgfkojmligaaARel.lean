import Derived.Test.YtbcbgfkojmligaaACore
import Derived.Laws.AppendOwn
import Derived.Below
/- Part of an abstract machine for Go code and of its soundness, for any program of the model; no condition. -/
set_option linter.unusedVariables false
set_option linter.unusedSimpArgs false
namespace Go.AM
open Go.RowKit

structure Loc where
  blk : Nat
  base : Nat
  cap : Nat

section
variable (P : Program)

def isSt : Ty → Bool
  | .unit | .pair _ _ => true
  | _ => false

/-- A function that can be called: it is there, with a body. -/
def Callable (f : Nat) : Prop := ∃ fn, P.funcs[f]? = some fn ∧ fn.name ≠ "runtime.NumGoroutine" ∧ fn.body.isSome = true

/-- A function value: from world wd on, as long as what stood there stands, the calls answer so. RA: what is asked of arguments. -/
def RFn (f : Nat) (caps : Array Value) (wd : World) (a r : Ty) (p : den a → den r) (RA : (Nat → Prop) → World → den a → List Value → Prop) (RR : World → den r → Value → Prop) : Prop :=
  Callable P f ∧ ∀ w1, (∀ b, b < wd.heap.size → w1.heap[b]? = wd.heap[b]?) → wd.heap.size ≤ w1.heap.size →
    ∀ G1 x args, (∀ b, G1 b → b < w1.heap.size) → RA G1 w1 x args →
      Calls P f (args.toArray ++ caps) w1 fun e w2 => ∃ v, e = .returned v ∧ RR w2 (p x) v ∧ Below w1.heap.size w1 w2

mutual
/-- Typed data in cells. G: the blocks that may be read for it. -/
def RT : (t : Ty) → (Nat → Prop) → World → den t → List Value → Prop
  | .int k, _, _, n, vs => vs = [.int k n]
  | .bool, _, _, b, vs => vs = [.bool b]
  | .str, _, _, s, vs => vs = [.string s]
  | .list t, G, w, xs, vs => ∃ A c, vs = [.slice A xs.length c] ∧ xs.length ≤ c ∧
      (xs = [] ∨ ∃ ad : Addr, A = some ad ∧ ad.spot = none ∧ G ad.block ∧
        ∀ i, (h : i < xs.length) → ∃ cs, cs.length = size t ∧ RT t G w xs[i] cs ∧ ∀ j u, cs[j]? = some u → w.cell? ⟨ad.block, ad.off + (i * size t + j), none⟩ = some u)
  | .olist t, G, w, xs, vs => ∃ A c, vs = [.slice A xs.length c] ∧ xs.length ≤ c ∧
      (xs = [] ∨ ∃ ad : Addr, A = some ad ∧ ad.spot = none ∧ G ad.block ∧
        ∀ i, (h : i < xs.length) → ∃ cs, cs.length = size t ∧ RT t G w xs[i] cs ∧ ∀ j u, cs[j]? = some u → w.cell? ⟨ad.block, ad.off + (i * size t + j), none⟩ = some u)
  | .unit, _, _, _, vs => vs = []
  | .pair a b, G, w, x, vs => ∃ v1 v2, vs = v1 ++ v2 ∧ RT a G w x.1 v1 ∧ RT b G w x.2 v2
  | .fn a r, _, w, p, vs => ∃ f caps wd, vs = [.func (.func f) #[] caps] ∧ (∀ b, b < wd.heap.size → w.heap[b]? = wd.heap[b]?) ∧ wd.heap.size ≤ w.heap.size ∧ flat r = true ∧
      RFn P f caps wd a r p (RArgs a) (fun w2 y v => RRes r (fun _ => False) w2 y v)
  | .ref t, G, w, x, vs => ∃ ad : Addr, vs = [.pointer (some ad)] ∧ ad.spot = none ∧ G ad.block ∧
      ∃ cs, cs.length = size t ∧ RT t G w x cs ∧ ∀ j u, cs[j]? = some u → w.cell? ⟨ad.block, ad.off + j, none⟩ = some u

/-- Typed data as arguments, each one value. -/
def RArgs : (a : Ty) → (Nat → Prop) → World → den a → List Value → Prop
  | .pair t b, G, w, x, vs => ∃ v vs', vs = v :: vs' ∧ (if isSt t then ∃ cs, v = .agg cs ∧ RT t G w x.1 cs.toList else RT t G w x.1 [v]) ∧ RArgs b G w x.2 vs'
  | _, _, _, _, vs => vs = []

/-- Typed data as results: one is itself, several a tuple. -/
def RRes : (r : Ty) → (Nat → Prop) → World → den r → Value → Prop
  | .pair t .unit, G, w, x, v => if isSt t then ∃ cs, v = .agg cs ∧ RT t G w x.1 cs.toList else RT t G w x.1 [v]
  | .pair t (.pair s b), G, w, x, v => ∃ vs, v = .tuple vs ∧ ∃ u vs', vs.toList = u :: vs' ∧ (if isSt t then ∃ cs, u = .agg cs ∧ RT t G w x.1 cs.toList else RT t G w x.1 [u]) ∧ RArgs (.pair s b) G w x.2 vs'
  | _, _, _, _, v => v = .tuple #[]
end

/-- One value of a type. -/
def RV (t : Ty) (G : Nat → Prop) (w : World) (x : den t) (v : Value) : Prop :=
  if isSt t then ∃ cs, v = .agg cs ∧ RT P t G w x cs.toList else RT P t G w x [v]

/-! ### a row, a box -/
def RowAt (t : Ty) (G : Nat → Prop) (w : World) (xs : List (den t)) (L : Loc) : Prop :=
  plain t = true ∧ 0 < size t ∧ ((L.cap = 0 ∧ xs = []) ∨
   ∃ c e, 0 < L.cap ∧ L.cap ≤ 9223372036854775807 ∧ w.heap[L.blk]? = some (.cells c e (0, 0)) ∧ L.base + L.cap * size t ≤ c.size ∧ xs.length ≤ L.cap ∧
     ∀ i, (h : i < xs.length) → RT P t G w xs[i] ((c.toList.drop (L.base + i * size t)).take (size t)))

/-- a slice of a row: from lo on, len elements -/
def SlV (L : Loc) (S lo len : Nat) (v : Value) : Prop :=
  ∃ A, v = .slice A len (L.cap - lo) ∧ lo + len ≤ L.cap ∧ (L.cap - lo = 0 ∨ A = some ⟨L.blk, L.base + lo * S, none⟩)

variable (φ : Nat → Loc) (G M : Nat → Prop) (w : World) (H : Heap)

mutual
/-- An abstract value stands for a value. G: blocks that may be read for ever; M: blocks that this run may write. -/
def RA : AV → Value → Prop
  | .undef, _ => True
  | .int k n, v => v = .int k n
  | .bool b, v => v = .bool b
  | .str s, v => v = .string s
  | .sl t xs full, v => plain t = true ∧ 0 < size t ∧ RT P (.list t) G w xs [v] ∧ (full = true → ∃ A, v = .slice A xs.length xs.length)
  | .own k lo len, v => match hget H k with
    | some (.row t xs _) => lo + len ≤ xs.length ∧ SlV (φ k) (size t) lo len v
    | _ => False
  | .ptr k off, v => v = .pointer (some ⟨(φ k).blk, off, none⟩) ∧ match hget H k with
    | some (.box _) => True
    | _ => False
  | .rptr k i off, v => match hget H k with
    | some (.row t xs _) => i < xs.length ∧ v = .pointer (some ⟨(φ k).blk, (φ k).base + i * size t + off, none⟩)
    | _ => False
  | .el t x off, v => plain t = true ∧ ∃ b o : Nat, v = .pointer (some ⟨b, o + off, none⟩) ∧ G b ∧
      ∃ cs, cs.length = size t ∧ RT P t G w x cs ∧ ∀ j u, cs[j]? = some u → w.cell? ⟨b, o + j, none⟩ = some u
  | .agg cs, v => ∃ us : Array Value, v = .agg us ∧ RAL cs us.toList
  | .tup cs, v => ∃ us : Array Value, v = .tuple us ∧ RAL cs us.toList
  | .clo f caps, v => ∃ us : Array Value, v = .func (.func f) #[] us ∧ RAL caps us.toList
  | .fv a r p, v => ∃ f caps wd, v = .func (.func f) #[] caps ∧ (∀ b, b < wd.heap.size → w.heap[b]? = wd.heap[b]?) ∧ wd.heap.size ≤ w.heap.size ∧ flat r = true ∧
      (∀ b, b < wd.heap.size → ¬ M b) ∧ RFn P f caps wd a r p (RArgs P a) (fun w2 y v => RRes P r (fun _ => False) w2 y v)
  | .g b v', v => (b = true → RA v' v) ∧ (b = false → v = undef)
def RAL : List AV → List Value → Prop
  | [], us => us = []
  | c :: cs, us => ∃ u us', us = u :: us' ∧ RA c u ∧ RAL cs us'
end

def RObj (k : Nat) : Obj → Prop
  | .box cs => ∃ c e, w.heap[(φ k).blk]? = some (.cells c e (0, 0)) ∧ M (φ k).blk ∧ RAL P φ G M w H cs c.toList
  | .row t xs f => RowAt P t G w xs (φ k) ∧ (0 < (φ k).cap → (f = true → G (φ k).blk) ∧ (f = false → M (φ k).blk))

/-- Has it a block? -/
def alloc (k : Nat) (o : Obj) : Prop :=
  match o with
  | .box _ => True
  | .row .. => 0 < (φ k).cap

structure RelH : Prop where
  obj : ∀ k o, hget H k = some o → RObj P φ G M w H k o
  inj : ∀ k k' o o', hget H k = some o → hget H k' = some o' → k ≠ k' → alloc φ k o → alloc φ k' o' → (φ k).blk ≠ (φ k').blk
  bnd : ∀ b, G b → b < w.heap.size
  mnd : ∀ b, M b → b < w.heap.size
  sep : ∀ b, G b → ¬ M b

structure Ctx where
  w0 : World
  G0 : Nat → Prop
  RB : Nat → Prop
  N : Nat

structure Rel (X : Ctx) (σ : St) (a : Act) (w : World) (φ : Nat → Loc) (G M : Nat → Prop) : Prop where
  env : ∀ t, RA P φ G M w σ.heap (eget σ.env t) (a.tmps.getD t undef)
  heap : RelH P φ G M w σ.heap
  sz : X.N ≤ a.tmps.size
  def_ : a.defers = []
  old : ∀ b, b < X.w0.heap.size → ¬ X.RB b → w.heap[b]? = X.w0.heap[b]?
  size : X.w0.heap.size ≤ w.heap.size
  os : w.os = X.w0.os
  tape : w.tape = X.w0.tape
  output : w.output = X.w0.output
  g0 : ∀ b, G b → b < X.w0.heap.size → X.G0 b ∨ X.RB b
  mt : ∀ b, M b → b < X.w0.heap.size → X.RB b
end
end Go.AM
