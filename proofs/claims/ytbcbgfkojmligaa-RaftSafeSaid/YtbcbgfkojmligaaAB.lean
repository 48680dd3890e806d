import Derived.Test.YtbcbgfkojmligaaAA
import Derived.Laws.AppendOwn
import Derived.Below
/- Part of an abstract machine for Go code and of its soundness, for any program of the model; no condition. -/
set_option maxHeartbeats 4000000
set_option linter.unusedVariables false
set_option linter.unusedSimpArgs false
namespace Go.AM
open Go.RowKit

structure Loc where
  blk : Nat
  base : Nat
  cap : Nat

section
variable (P : Program)

def isSt : Ty → Bool
  | .unit | .pair _ _ => true
  | _ => false

/-- A function that can be called: it is there, with a body. -/
def Callable (f : Nat) : Prop := ∃ fn, P.funcs[f]? = some fn ∧ fn.name ≠ "runtime.NumGoroutine" ∧ fn.body.isSome = true

/-- A function value: from world wd on, as long as what stood there stands, the calls answer so. RA: what is asked of arguments. -/
def RFn (f : Nat) (caps : Array Value) (wd : World) (a r : Ty) (p : den a → den r) (RA : (Nat → Prop) → World → den a → List Value → Prop) (RR : World → den r → Value → Prop) : Prop :=
  Callable P f ∧ ∀ w1, (∀ b, b < wd.heap.size → w1.heap[b]? = wd.heap[b]?) → wd.heap.size ≤ w1.heap.size →
    ∀ G1 x args, (∀ b, G1 b → b < w1.heap.size) → RA G1 w1 x args →
      Calls P f (args.toArray ++ caps) w1 fun e w2 => ∃ v, e = .returned v ∧ RR w2 (p x) v ∧ Below w1.heap.size w1 w2

mutual
/-- Typed data in cells. G: the blocks that may be read for it. -/
def RT : (t : Ty) → (Nat → Prop) → World → den t → List Value → Prop
  | .int k, _, _, n, vs => vs = [.int k n]
  | .bool, _, _, b, vs => vs = [.bool b]
  | .str, _, _, s, vs => vs = [.string s]
  | .list t, G, w, xs, vs => ∃ A c, vs = [.slice A xs.length c] ∧ xs.length ≤ c ∧
      (xs = [] ∨ ∃ ad : Addr, A = some ad ∧ ad.spot = none ∧ G ad.block ∧
        ∀ i, (h : i < xs.length) → ∃ cs, cs.length = size t ∧ RT t G w xs[i] cs ∧ ∀ j u, cs[j]? = some u → w.cell? ⟨ad.block, ad.off + (i * size t + j), none⟩ = some u)
  | .olist t, G, w, xs, vs => ∃ A c, vs = [.slice A xs.length c] ∧ xs.length ≤ c ∧
      (xs = [] ∨ ∃ ad : Addr, A = some ad ∧ ad.spot = none ∧ G ad.block ∧
        ∀ i, (h : i < xs.length) → ∃ cs, cs.length = size t ∧ RT t G w xs[i] cs ∧ ∀ j u, cs[j]? = some u → w.cell? ⟨ad.block, ad.off + (i * size t + j), none⟩ = some u)
  | .flist t, G, w, xs, vs => ∃ A c, vs = [.slice A xs.length c] ∧ c = xs.length ∧
      (xs = [] ∨ ∃ ad : Addr, A = some ad ∧ ad.spot = none ∧ G ad.block ∧
        ∀ i, (h : i < xs.length) → ∃ cs, cs.length = size t ∧ RT t G w xs[i] cs ∧ ∀ j u, cs[j]? = some u → w.cell? ⟨ad.block, ad.off + (i * size t + j), none⟩ = some u)
  | .unit, _, _, _, vs => vs = []
  | .pair a b, G, w, x, vs => ∃ v1 v2, vs = v1 ++ v2 ∧ RT a G w x.1 v1 ∧ RT b G w x.2 v2
  | .fn a r, _, w, p, vs => ∃ f caps wd, vs = [.func (.func f) #[] caps] ∧ (∀ b, b < wd.heap.size → w.heap[b]? = wd.heap[b]?) ∧ wd.heap.size ≤ w.heap.size ∧ flat r = true ∧
      RFn P f caps wd a r p (RArgs a) (fun w2 y v => RRes r (fun _ => False) w2 y v)
  | .ref t, G, w, x, vs => ∃ ad : Addr, vs = [.pointer (some ad)] ∧ ad.spot = none ∧ G ad.block ∧
      ∃ cs, cs.length = size t ∧ RT t G w x cs ∧ ∀ j u, cs[j]? = some u → w.cell? ⟨ad.block, ad.off + j, none⟩ = some u

/-- Typed data as arguments, each one value. -/
def RArgs : (a : Ty) → (Nat → Prop) → World → den a → List Value → Prop
  | .pair t b, G, w, x, vs => ∃ v vs', vs = v :: vs' ∧ (if isSt t then ∃ cs, v = .agg cs ∧ RT t G w x.1 cs.toList else RT t G w x.1 [v]) ∧ RArgs b G w x.2 vs'
  | _, _, _, _, vs => vs = []

/-- Typed data as results: one is itself, several a tuple. -/
def RRes : (r : Ty) → (Nat → Prop) → World → den r → Value → Prop
  | .pair t .unit, G, w, x, v => if isSt t then ∃ cs, v = .agg cs ∧ RT t G w x.1 cs.toList else RT t G w x.1 [v]
  | .pair t (.pair s b), G, w, x, v => ∃ vs, v = .tuple vs ∧ ∃ u vs', vs.toList = u :: vs' ∧ (if isSt t then ∃ cs, u = .agg cs ∧ RT t G w x.1 cs.toList else RT t G w x.1 [u]) ∧ RArgs (.pair s b) G w x.2 vs'
  | _, _, _, _, v => v = .tuple #[]
end

/-- One value of a type. -/
def RV (t : Ty) (G : Nat → Prop) (w : World) (x : den t) (v : Value) : Prop :=
  if isSt t then ∃ cs, v = .agg cs ∧ RT P t G w x cs.toList else RT P t G w x [v]

/-! ### a row, a box -/
def RowAt (t : Ty) (G : Nat → Prop) (w : World) (xs : List (den t)) (L : Loc) : Prop :=
  plain t = true ∧ 0 < size t ∧ ((L.cap = 0 ∧ xs = []) ∨
   ∃ c e, 0 < L.cap ∧ L.cap ≤ 9223372036854775807 ∧ w.heap[L.blk]? = some (.cells c e (0, 0)) ∧ L.base + L.cap * size t ≤ c.size ∧ xs.length ≤ L.cap ∧
     ∀ i, (h : i < xs.length) → RT P t G w xs[i] ((c.toList.drop (L.base + i * size t)).take (size t)))

/-- a slice of a row: from lo on, len elements -/
def SlV (L : Loc) (S lo len : Nat) (v : Value) : Prop :=
  ∃ A, v = .slice A len (L.cap - lo) ∧ lo + len ≤ L.cap ∧ (L.cap - lo = 0 ∨ A = some ⟨L.blk, L.base + lo * S, none⟩)

variable (φ : Nat → Loc) (G M : Nat → Prop) (w : World) (H : Heap)

mutual
/-- An abstract value stands for a value. G: blocks that may be read for ever; M: blocks that this run may write. -/
def RA : AV → Value → Prop
  | .undef, _ => True
  | .nilf, v => v = .nilFunc
  | .int k n, v => v = .int k n
  | .bool b, v => v = .bool b
  | .str s, v => v = .string s
  | .sl t xs full, v => plain t = true ∧ 0 < size t ∧ RT P (.list t) G w xs [v] ∧ (full = true → ∃ A, v = .slice A xs.length xs.length)
  | .own k lo len, v => match hget H k with
    | some (.row t xs _) => lo + len ≤ xs.length ∧ SlV (φ k) (size t) lo len v
    | _ => False
  | .ptr k off, v => v = .pointer (some ⟨(φ k).blk, off, none⟩) ∧ match hget H k with
    | some (.box _) => True
    | _ => False
  | .pn k b, _ => (φ k).blk = b ∧ match hget H k with
    | some (.box _) => True
    | _ => False
  | .rptr k i off, v => match hget H k with
    | some (.row t xs _) => i < xs.length ∧ v = .pointer (some ⟨(φ k).blk, (φ k).base + i * size t + off, none⟩)
    | _ => False
  | .el t x off, v => plain t = true ∧ ∃ b o : Nat, v = .pointer (some ⟨b, o + off, none⟩) ∧ G b ∧
      ∃ cs, cs.length = size t ∧ RT P t G w x cs ∧ ∀ j u, cs[j]? = some u → w.cell? ⟨b, o + j, none⟩ = some u
  | .agg cs, v => ∃ us : Array Value, v = .agg us ∧ RAL cs us.toList
  | .tup cs, v => ∃ us : Array Value, v = .tuple us ∧ RAL cs us.toList
  | .clo f caps, v => ∃ us : Array Value, v = .func (.func f) #[] us ∧ RAL caps us.toList
  | .fv a r p, v => ∃ f caps wd, v = .func (.func f) #[] caps ∧ (∀ b, b < wd.heap.size → w.heap[b]? = wd.heap[b]?) ∧ wd.heap.size ≤ w.heap.size ∧ flat r = true ∧
      (∀ b, b < wd.heap.size → ¬ M b) ∧ RFn P f caps wd a r p (RArgs P a) (fun w2 y v => RRes P r (fun _ => False) w2 y v)
  | .g b v', v => (b = true → RA v' v) ∧ (b = false → v = undef)
  | .mp k, v => v = .map (some (φ k).blk) ∧ match hget H k with
    | some (.mp _) => True
    | _ => False
def RAL : List AV → List Value → Prop
  | [], us => us = []
  | c :: cs, us => ∃ u us', us = u :: us' ∧ RA c u ∧ RAL cs us'
end

def RObj (k : Nat) : Obj → Prop
  | .box cs => ∃ c e, w.heap[(φ k).blk]? = some (.cells c e (0, 0)) ∧ M (φ k).blk ∧ RAL P φ G M w H cs c.toList
  | .row t xs f => RowAt P t G w xs (φ k) ∧ (0 < (φ k).cap → (f = true → G (φ k).blk) ∧ (f = false → M (φ k).blk))
  | .mp m => M (φ k).blk ∧ ∃ es clock, w.heap[(φ k).blk]? = some (.map es clock) ∧ es.toList.map (fun e => (e.key, e.val)) = m.map (fun e => (Value.int .i64 e.1, Value.int .i64 e.2))

/-- Has it a block? -/
def alloc (k : Nat) (o : Obj) : Prop :=
  match o with
  | .box _ => True
  | .row .. => 0 < (φ k).cap
  | .mp _ => True

structure RelH : Prop where
  obj : ∀ k o, hget H k = some o → RObj P φ G M w H k o
  inj : ∀ k k' o o', hget H k = some o → hget H k' = some o' → k ≠ k' → alloc φ k o → alloc φ k' o' → (φ k).blk ≠ (φ k').blk
  bnd : ∀ b, G b → b < w.heap.size
  mnd : ∀ b, M b → b < w.heap.size
  sep : ∀ b, G b → ¬ M b

structure Ctx where
  w0 : World
  G0 : Nat → Prop
  RB : Nat → Prop
  N : Nat

structure Rel (X : Ctx) (σ : St) (a : Act) (w : World) (φ : Nat → Loc) (G M : Nat → Prop) : Prop where
  env : ∀ t, RA P φ G M w σ.heap (eget σ.env t) (a.tmps.getD t undef)
  heap : RelH P φ G M w σ.heap
  sz : X.N ≤ a.tmps.size
  def_ : a.defers = []
  old : ∀ b, b < X.w0.heap.size → ¬ X.RB b → w.heap[b]? = X.w0.heap[b]?
  size : X.w0.heap.size ≤ w.heap.size
  os : w.os = X.w0.os
  tape : w.tape = X.w0.tape
  output : w.output = X.w0.output
  g0 : ∀ b, G b → b < X.w0.heap.size → X.G0 b ∨ X.RB b
  mt : ∀ b, M b → b < X.w0.heap.size → X.RB b
end
end Go.AM

namespace Go.AM
open Go.RowKit
section
variable {P : Program}

/-- What stands in the blocks of G stands there still. -/
def Ag (G : Nat → Prop) (w w' : World) : Prop := ∀ b, G b → w'.heap[b]? = w.heap[b]?
theorem Ag.cell {G : Nat → Prop} {w w' : World} (h : Ag G w w') {b o : Nat} {s : Option Nat} (hb : G b) : w'.cell? ⟨b, o, s⟩ = w.cell? ⟨b, o, s⟩ := by
  simp only [World.cell?, h b hb]

theorem RT.len {t : Ty} : ∀ {G : Nat → Prop} {w : World} {x : den t} {vs : List Value}, RT P t G w x vs → vs.length = size t := by
  induction t with
  | int k => intro G w x vs h; simp only [RT] at h; subst h; rfl
  | bool => intro G w x vs h; simp only [RT] at h; subst h; rfl
  | str => intro G w x vs h; simp only [RT] at h; subst h; rfl
  | list t ih => intro G w x vs h; simp only [RT] at h; obtain ⟨A, c, rfl, _⟩ := h; rfl
  | olist t ih => intro G w x vs h; simp only [RT] at h; obtain ⟨A, c, rfl, _⟩ := h; rfl
  | flist t ih => intro G w x vs h; simp only [RT] at h; obtain ⟨A, c, rfl, _⟩ := h; rfl
  | unit => intro G w x vs h; simp only [RT] at h; subst h; rfl
  | pair a b iha ihb => intro G w x vs h; simp only [RT] at h; obtain ⟨v1, v2, rfl, h1, h2⟩ := h; simp [size, iha h1, ihb h2]
  | fn a r _ _ => intro G w x vs h; simp only [RT] at h; obtain ⟨f, c, wd, rfl, _⟩ := h; rfl
  | ref t ih => intro G w x vs h; simp only [RT] at h; obtain ⟨ad, rfl, _⟩ := h; rfl

theorem RT.mono {t : Ty} : ∀ {G G' : Nat → Prop} {w w' : World} {x : den t} {vs : List Value}, plain t = true → RT P t G w x vs → (∀ b, G b → G' b) → Ag G w w' → RT P t G' w' x vs := by
  induction t with
  | int k => intro G G' w w' x vs _ h _ _; simpa only [RT] using h
  | bool => intro G G' w w' x vs _ h _ _; simpa only [RT] using h
  | str => intro G G' w w' x vs _ h _ _; simpa only [RT] using h
  | list t ih =>
    intro G G' w w' x vs hp h hG hA
    simp only [RT] at h ⊢
    obtain ⟨A, c, rfl, hc, h⟩ := h
    refine ⟨A, c, rfl, hc, h.imp id ?_⟩
    rintro ⟨ad, rfl, hs, hg, h⟩
    refine ⟨ad, rfl, hs, hG _ hg, fun i hi => ?_⟩
    obtain ⟨cs, hl, hr, hcell⟩ := h i hi
    exact ⟨cs, hl, ih (by simp [plain] at hp; first | exact hp.1 | exact hp) hr hG hA, fun j u hu => (hA.cell hg).trans (hcell j u hu)⟩
  | olist t ih =>
    intro G G' w w' x vs hp h hG hA
    simp only [RT] at h ⊢
    obtain ⟨A, c, rfl, hc, h⟩ := h
    refine ⟨A, c, rfl, hc, h.imp id ?_⟩
    rintro ⟨ad, rfl, hs, hg, h⟩
    refine ⟨ad, rfl, hs, hG _ hg, fun i hi => ?_⟩
    obtain ⟨cs, hl, hr, hcell⟩ := h i hi
    exact ⟨cs, hl, ih (by simp [plain] at hp; first | exact hp.1 | exact hp) hr hG hA, fun j u hu => (hA.cell hg).trans (hcell j u hu)⟩
  | flist t ih =>
    intro G G' w w' x vs hp h hG hA
    simp only [RT] at h ⊢
    obtain ⟨A, c, rfl, hc, h⟩ := h
    refine ⟨A, c, rfl, hc, h.imp id ?_⟩
    rintro ⟨ad, rfl, hs, hg, h⟩
    refine ⟨ad, rfl, hs, hG _ hg, fun i hi => ?_⟩
    obtain ⟨cs, hl, hr, hcell⟩ := h i hi
    exact ⟨cs, hl, ih (by simp [plain] at hp; first | exact hp.1 | exact hp) hr hG hA, fun j u hu => (hA.cell hg).trans (hcell j u hu)⟩
  | unit => intro G G' w w' x vs _ h _ _; simpa only [RT] using h
  | pair a b iha ihb =>
    intro G G' w w' x vs hp h hG hA
    simp only [RT] at h ⊢
    simp only [plain, Bool.and_eq_true] at hp
    obtain ⟨v1, v2, rfl, h1, h2⟩ := h
    exact ⟨v1, v2, rfl, iha hp.1 h1 hG hA, ihb hp.2 h2 hG hA⟩
  | fn a r _ _ => intro G G' w w' x vs hp; simp [plain] at hp
  | ref t ih =>
    intro G G' w w' x vs hp h hG hA
    simp only [RT] at h ⊢
    obtain ⟨ad, rfl, hs, hg, cs, hl, hr, hc⟩ := h
    exact ⟨ad, rfl, hs, hG _ hg, cs, hl, ih (by simp [plain] at hp; first | exact hp.1 | exact hp) hr hG hA, fun j u hu => (hA.cell hg).trans (hc j u hu)⟩

theorem RV.mono {t : Ty} {G G' : Nat → Prop} {w w' : World} {x : den t} {v : Value} (hp : plain t = true) (h : RV P t G w x v) (hG : ∀ b, G b → G' b) (hA : Ag G w w') : RV P t G' w' x v := by
  unfold RV at *
  split
  · rename_i hs
    simp only [hs, if_true] at h
    obtain ⟨cs, rfl, h⟩ := h
    exact ⟨cs, rfl, h.mono hp hG hA⟩
  · rename_i hs
    simp only [hs] at h
    exact RT.mono hp (by simpa using h) hG hA

/-- The same data: nothing of memory is in it. -/
theorem RT.flat {t : Ty} : ∀ {G G' : Nat → Prop} {w w' : World} {x : den t} {vs : List Value}, flat t = true → RT P t G w x vs → RT P t G' w' x vs := by
  induction t with
  | int k => intro G G' w w' x vs _ h; simpa only [RT] using h
  | bool => intro G G' w w' x vs _ h; simpa only [RT] using h
  | str => intro G G' w w' x vs _ h; simpa only [RT] using h
  | unit => intro G G' w w' x vs _ h; simpa only [RT] using h
  | pair a b iha ihb =>
    intro G G' w w' x vs hp h
    simp only [RT] at h ⊢
    simp only [AM.flat, Bool.and_eq_true] at hp
    obtain ⟨v1, v2, rfl, h1, h2⟩ := h
    exact ⟨v1, v2, rfl, iha hp.1 h1, ihb hp.2 h2⟩
  | _ => intros; simp_all [AM.flat]

theorem RowAt.mono {t : Ty} {G G' : Nat → Prop} {w w' : World} {xs : List (den t)} {L : Loc} (h : RowAt P t G w xs L) (hG : ∀ b, G b → G' b) (hA : Ag G w w')
    (hb : 0 < L.cap → w'.heap[L.blk]? = w.heap[L.blk]?) : RowAt P t G' w' xs L := by
  obtain ⟨hp, hz, h⟩ := h
  refine ⟨hp, hz, h.imp id ?_⟩
  rintro ⟨c, e, hc, hm, hh, hs, hl, h⟩
  exact ⟨c, e, hc, hm, (hb hc).trans hh, hs, hl, fun i hi => (h i hi).mono hp hG hA⟩

/-- Are two objects of one shape? -/
def shape : Obj → Obj → Prop
  | .box _, .box _ => True
  | .row t xs _, .row t' ys _ => t = t' ∧ xs.length = ys.length
  | .mp _, .mp _ => True
  | _, _ => False

/-- From one world to a later one: what was there is there in the same shape. -/
structure Ext (φ φ' : Nat → Loc) (G G' M M' : Nat → Prop) (w w' : World) (H H' : Heap) : Prop where
  g : ∀ b, G b → G' b
  ag : Ag G w w'
  keep : ∀ b, b < w.heap.size → ¬ M b → w'.heap[b]? = w.heap[b]?
  keys : ∀ k o, hget H k = some o → φ' k = φ k ∧ ∃ o', hget H' k = some o' ∧ shape o o'
  mt : ∀ b, b < w.heap.size → M' b → M b
  size : w.heap.size ≤ w'.heap.size

mutual
theorem RA.mono {φ φ' : Nat → Loc} {G G' M M' : Nat → Prop} {w w' : World} {H H' : Heap} (X : Ext φ φ' G G' M M' w w' H H') : ∀ (v : AV) (u : Value), RA P φ G M w H v u → RA P φ' G' M' w' H' v u
  | .undef, _, _ => by simp only [RA]
  | .nilf, _, h => by simpa only [RA] using h
  | .int _ _, _, h => by simpa only [RA] using h
  | .bool _, _, h => by simpa only [RA] using h
  | .str _, _, h => by simpa only [RA] using h
  | .sl t xs full, u, h => by
    simp only [RA] at h ⊢
    exact ⟨h.1, h.2.1, RT.mono (t := .list t) (by simp [plain, h.1, h.2.1]) h.2.2.1 X.g X.ag, h.2.2.2⟩
  | .own k lo len, u, h => by
    simp only [RA] at h ⊢
    split at h
    · rename_i t xs f hk
      obtain ⟨e, o', ho', hs⟩ := X.keys k _ hk
      cases o' with
      | box cs => simp [shape] at hs
      | mp m => simp [shape] at hs
      | row t' ys f' =>
        simp only [shape] at hs
        obtain ⟨rfl, hl⟩ := hs
        simp only [ho', e]
        exact ⟨by omega, h.2⟩
    · exact h.elim
  | .ptr k off, u, h => by
    simp only [RA] at h ⊢
    obtain ⟨h1, h2⟩ := h
    split at h2
    · rename_i cs hk
      obtain ⟨e, o', ho', hs⟩ := X.keys k _ hk
      cases o' with
      | box cs => simp only [ho', e]; exact ⟨h1, trivial⟩
      | mp m => simp [shape] at hs
      | row t' ys f' => simp [shape] at hs
    · exact h2.elim
  | .pn k off, u, h => by
    simp only [RA] at h ⊢
    obtain ⟨h1, h2⟩ := h
    split at h2
    · rename_i cs hk
      obtain ⟨e, o', ho', hs⟩ := X.keys k _ hk
      cases o' with
      | box cs => simp only [ho', e]; exact ⟨h1, trivial⟩
      | mp m => simp [shape] at hs
      | row t' ys f' => simp [shape] at hs
    · exact h2.elim
  | .rptr k i off, u, h => by
    simp only [RA] at h ⊢
    split at h
    · rename_i t xs f hk
      obtain ⟨e, o', ho', hs⟩ := X.keys k _ hk
      cases o' with
      | box cs => simp [shape] at hs
      | mp m => simp [shape] at hs
      | row t' ys f' =>
        simp only [shape] at hs
        obtain ⟨rfl, hl⟩ := hs
        simp only [ho', e]
        exact ⟨by omega, h.2⟩
    · exact h.elim
  | .el t x off, u, h => by
    simp only [RA] at h ⊢
    obtain ⟨hp, b, o, rfl, hg, cs, hl, hr, hc⟩ := h
    exact ⟨hp, b, o, rfl, X.g _ hg, cs, hl, hr.mono hp X.g X.ag, fun j u hu => (X.ag.cell hg).trans (hc j u hu)⟩
  | .agg cs, u, h => by
    simp only [RA] at h ⊢
    obtain ⟨us, rfl, h⟩ := h
    exact ⟨us, rfl, RAL.mono X cs _ h⟩
  | .tup cs, u, h => by
    simp only [RA] at h ⊢
    obtain ⟨us, rfl, h⟩ := h
    exact ⟨us, rfl, RAL.mono X cs _ h⟩
  | .clo f cs, u, h => by
    simp only [RA] at h ⊢
    obtain ⟨us, rfl, h⟩ := h
    exact ⟨us, rfl, RAL.mono X cs _ h⟩
  | .fv a r p, u, h => by
    simp only [RA] at h ⊢
    obtain ⟨f, caps, wd, rfl, h1, h2, hf, h3, h4⟩ := h
    refine ⟨f, caps, wd, rfl, fun b hb => (X.keep b (by omega) (h3 b hb)).trans (h1 b hb), Nat.le_trans h2 X.size, hf, fun b hb hm => h3 b hb (X.mt b (by omega) hm), h4⟩
  | .g b v, u, h => by
    simp only [RA] at h ⊢
    exact ⟨fun hb => RA.mono X v u (h.1 hb), h.2⟩
  | .mp k, u, h => by
    simp only [RA] at h ⊢
    obtain ⟨h1, h2⟩ := h
    split at h2
    · rename_i cs hk
      obtain ⟨e, o', ho', hs⟩ := X.keys k _ hk
      cases o' with
      | mp m => simp only [ho', e]; exact ⟨h1, trivial⟩
      | box cs => simp [shape] at hs
      | row t' ys f' => simp [shape] at hs
    · exact h2.elim
theorem RAL.mono {φ φ' : Nat → Loc} {G G' M M' : Nat → Prop} {w w' : World} {H H' : Heap} (X : Ext φ φ' G G' M M' w w' H H') : ∀ (vs : List AV) (us : List Value), RAL P φ G M w H vs us → RAL P φ' G' M' w' H' vs us
  | [], us, h => by simpa only [RAL] using h
  | c :: cs, us, h => by
    simp only [RAL] at h ⊢
    obtain ⟨u, us', rfl, h1, h2⟩ := h
    exact ⟨u, us', rfl, RA.mono X c u h1, RAL.mono X cs us' h2⟩
end

/-- What becomes of the state when the world goes on. -/
theorem Rel.step {X : Ctx} {σ : St} {a : Act} {w w' : World} {φ φ' : Nat → Loc} {G G' M M' : Nat → Prop} {H' : Heap} (h : Rel P X σ a w φ G M)
    (E : Ext φ φ' G G' M M' w w' σ.heap H') (hH : RelH P φ' G' M' w' H') (ho : w'.os = w.os) (ht : w'.tape = w.tape) (hu : w'.output = w.output)
    (hg : ∀ b, G' b → b < w.heap.size → G b ∨ M b) : Rel P X ⟨σ.env, H'⟩ a w' φ' G' M' where
  env := fun t => RA.mono E _ _ (h.env t)
  heap := hH
  sz := h.sz
  def_ := h.def_
  old := fun b hb hr => (E.keep b (Nat.lt_of_lt_of_le hb h.size) (fun hm => hr (h.mt b hm hb))).trans (h.old b hb hr)
  size := Nat.le_trans h.size E.size
  os := ho.trans h.os
  tape := ht.trans h.tape
  output := hu.trans h.output
  g0 := fun b hb hlt => (hg b hb (Nat.lt_of_lt_of_le hlt h.size)).elim (fun hG => h.g0 b hG hlt) (fun hM => .inr (h.mt b hM hlt))
  mt := fun b hb hlt => h.mt b (E.mt b (Nat.lt_of_lt_of_le hlt h.size) hb) hlt

theorem eget_put (e : Env) (d t : Nat) (v : AV) : eget ((d, v) :: e) t = if d = t then v else eget e t := rfl

/-- A slot is written. -/
theorem Rel.put {X : Ctx} {σ : St} {a : Act} {w : World} {φ : Nat → Loc} {G M : Nat → Prop} (h : Rel P X σ a w φ G M) (d : Option Nat) (v : AV) (u : Value)
    (hd : ∀ i, d = some i → i < X.N) (hv : RA P φ G M w σ.heap v u) : Rel P X ⟨setE σ.env d v, σ.heap⟩ (a.put d u) w φ G M := by
  cases d with
  | none => exact h
  | some d =>
    have hlt : d < a.tmps.size := Nat.lt_of_lt_of_le (hd d rfl) h.sz
    refine { h with env := fun t => ?_, sz := by simpa [Act.put] using h.sz, def_ := h.def_ }
    simp only [setE, eget_put, Act.put]
    by_cases e : d = t
    · subst e
      simpa [hlt] using hv
    · have := h.env t
      simp only [e, if_false]
      simpa [Array.getElem?_setIfInBounds_ne e] using this

theorem RelH.obj' {φ : Nat → Loc} {G M : Nat → Prop} {w : World} {H : Heap} (h : RelH P φ G M w H) {k : Nat} {o : Obj} (hk : hget H k = some o) : RObj P φ G M w H k o := h.obj k o hk

theorem RObj.mono {φ φ' : Nat → Loc} {G G' M M' : Nat → Prop} {w w' : World} {H H' : Heap} (E : Ext φ φ' G G' M M' w w' H H') {k : Nat} {o : Obj}
    (e : φ' k = φ k) (hb : alloc φ k o → w'.heap[(φ k).blk]? = w.heap[(φ k).blk]?) (hm : M (φ k).blk → M' (φ k).blk) (h : RObj P φ G M w H k o) : RObj P φ' G' M' w' H' k o := by
  cases o with
  | box cs =>
    simp only [RObj] at h ⊢
    obtain ⟨c, t, hc, hM, hr⟩ := h
    rw [e]
    exact ⟨c, t, (hb trivial).trans hc, hm hM, RAL.mono E _ _ hr⟩
  | row t xs f =>
    simp only [RObj] at h ⊢
    rw [e]
    exact ⟨h.1.mono E.g E.ag (fun hc => hb hc), fun hc => ⟨fun hf => E.g _ ((h.2 hc).1 hf), fun hf => hm ((h.2 hc).2 hf)⟩⟩
  | mp m =>
    simp only [RObj] at h ⊢
    rw [e]
    obtain ⟨h1, es, clock, h2, h3⟩ := h
    exact ⟨hm h1, es, clock, (hb trivial).trans h2, h3⟩

theorem hget_hput_self (H : Heap) (k : Nat) (o : Obj) : hget (hput H k o) k = some o := by
  induction H with
  | nil => simp [hput, hget]
  | cons p H ih =>
    obtain ⟨i, v⟩ := p
    by_cases e : i = k <;> simp [hput, hget, e, ih]
theorem hget_hput_ne (H : Heap) (k j : Nat) (o : Obj) (h : j ≠ k) : hget (hput H k o) j = hget H j := by
  induction H with
  | nil => simp [hput, hget, Ne.symm h]
  | cons p H ih =>
    obtain ⟨i, v⟩ := p
    by_cases e : i = k
    · subst e; simp [hput, hget, Ne.symm h]
    · by_cases e' : i = j
      · subst e'; simp [hput, hget, h]
      · simp [hput, hget, e, e', ih]
theorem hget_hput (H : Heap) (k j : Nat) (o : Obj) : hget (hput H k o) j = if j = k then some o else hget H j := by
  by_cases h : j = k
  · subst h; simp [hget_hput_self]
  · simp [h, hget_hput_ne]
theorem hget_hdel (H : Heap) (k j : Nat) : hget (hdel H k) j = if j = k then none else hget H j := by
  induction H with
  | nil => simp [hdel, hget]
  | cons p H ih =>
    obtain ⟨i, v⟩ := p
    by_cases e : i = k
    · subst e
      by_cases e' : j = i
      · subst e'; simp [hdel, ih]
      · simp [hdel, hget, ih, e', Ne.symm e']
    · by_cases e' : i = j
      · subst e'; simp [hdel, hget, e]
      · simp [hdel, hget, e, e', ih]
end
end Go.AM
