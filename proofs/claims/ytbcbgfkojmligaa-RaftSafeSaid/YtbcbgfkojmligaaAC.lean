import Derived.Test.YtbcbgfkojmligaaAB
import Derived.Test.YtbcbgfkojmligaaAA
/- Part of an abstract machine for Go code and of its soundness, for any program of the model; no condition. -/
set_option maxHeartbeats 4000000
set_option linter.unusedVariables false
set_option linter.unusedSimpArgs false
namespace Go.AM
inductive Ex where | norm | ret | exit (id : Nat)

def inBlock (id : Nat) (Q : Ex → St → Prop) (e : Ex) (σ : St) : Prop :=
  match e with
  | .exit i => if i = id then Q .norm σ else Q (.exit i) σ
  | e => Q e σ
def andThen (Q : Ex → St → Prop) (K : St → Prop) (e : Ex) (σ : St) : Prop :=
  match e with
  | .norm => K σ
  | e => Q e σ

def bitIn (m j : Nat) : Bool := m.testBit j

/-- Every order that the edges leave: n bounds the number of operations to come. -/
def anyOps (T : Tab) (ops : List AOp) (before : List Nat) : Nat → List Bool → St → (St → Prop) → Prop
  | 0, (_ : List Bool), σ, K => K σ
  | n + 1, (listed : List Bool), σ, K =>
    ((∀ i : Nat, listed[i]? = some false → ∃ j : Nat, bitIn (before.getD i 0) j = true ∧ listed.getD j false = false) → K σ) ∧
    ∀ (i : Nat) (o : AOp), ops[i]? = some o → listed[i]? = some false → (∀ j : Nat, bitIn (before.getD i 0) j = true → listed.getD j false = true) →
      (ev T o σ).bind fun nd v e => nd ∧ anyOps T ops before n (listed.set i true) (σ.upd o.d v e) K

/-- The states that a loop's head may be brought to. -/
def Ent (σ σ' : St) : Prop := ∀ (P : Program) (X : Ctx) (a : Act) (w : World) (φ : Nat → Loc) (G M : Nat → Prop), Rel P X σ a w φ G M → ∃ φ' G' M', Rel P X σ' a w φ' G' M'

/-! ### regions whose order is drawn -/
mutual
/-- the keys that a value names -/
def nm : AV → List Nat
  | .own k _ _ => [k]
  | .ptr k _ => [k]
  | .pn k _ => [k]
  | .mp k => [k]
  | .rptr k _ _ => [k]
  | .agg cs => nmL cs
  | .tup cs => nmL cs
  | .clo _ cs => nmL cs
  | .g _ v => nm v
  | _ => []
def nmL : List AV → List Nat
  | [] => []
  | v :: vs => nm v ++ nmL vs
end
def nmO : Option Obj → List Nat
  | some (.box cs) => nmL cs
  | _ => []
def nmK (H : Heap) : List Nat → List Nat
  | [] => []
  | k :: ks => nmO (hget H k) ++ nmK H ks
/-- what an operation with these operands may look at -/
def deep : K → Bool
  | .call _ => true
  | .callv => true
  | .bslice _ _ => true
  | _ => false
def nmB (k : K) (H : Heap) (vs : List AV) : List Nat := nmL vs ++ (bif deep k then nmK H (nmL vs) else [])
def xsTmps : List Opd → List Nat
  | [] => []
  | .t n :: xs => n :: xsTmps xs
  | .c _ :: xs => xsTmps xs
def AOp.tmps (o : AOp) : List Nat := match o.gd with
  | some (t, _) => t :: xsTmps o.xs
  | none => xsTmps o.xs
def nmPut : List (Nat × Obj) → List Nat
  | [] => []
  | (_, o) :: ps => nmO (some o) ++ nmPut ps
def Eff.keys (e : Eff) : List Nat := e.put.map (·.1) ++ e.del
def nmD (E : Env) : Option Nat → List Nat
  | some d => nm (eget E d)
  | none => []
def rdOf (σ : St) (o : AOp) (v : AV) (e : Eff) : List Nat := nmB o.k σ.heap (vals σ.env o.xs) ++ (nm v ++ (nmPut e.put ++ (nmK σ.heap e.keys ++ nmD σ.env o.d)))
def meets (ks l : List Nat) : Bool := l.any fun k => ks.contains k
def ktGo (ks : List Nat) : Env → List Nat
  | [] => []
  | (i, v) :: e => if meets ks (nm v) then i :: ktGo ks e else ktGo ks e
def kbGo (ks : List Nat) : Heap → List Nat
  | [] => []
  | (i, o) :: h => if meets ks (nmO (some o)) then i :: kbGo ks h else kbGo ks h
def ktOf (E : Env) : List Nat → List Nat
  | [] => []
  | k :: ks => ktGo (k :: ks) E
def kbOf (H : Heap) : List Nat → List Nat
  | [] => []
  | k :: ks => kbGo (k :: ks) H

/-- What of an operation counts for the order. -/
structure TS where
  d : Option Nat
  tm : List Nat
  rd : List Nat
  wr : List Nat
  fz : List Nat
  kt : List Nat
  ky : List Nat
  li : Bool

/-- operations that look into nothing -/
def light : K → Bool
  | .mv => true
  | .nilchk => true
  | .fld _ => true
  | _ => false
def tsOf (σ : St) (o : AOp) (v : AV) (e : Eff) : TS := ⟨o.d, o.tmps, rdOf σ o v e, e.keys ++ kbOf σ.heap e.del, e.frz, ktOf σ.env e.del, e.keys, light o.k⟩

def isD (d : Option Nat) (l : List Nat) : Bool := match d with
  | some d => l.contains d
  | none => false
def sameD : Option Nat → Option Nat → Bool
  | some d, some d' => d == d'
  | _, _ => false
def indB (x y : TS) : Bool :=
  !isD x.d y.tm && (!sameD x.d y.d && (!isD x.d y.kt && (!isD y.d x.tm && (!isD y.d x.kt && (!meets x.kt y.tm && (!meets y.kt x.tm && ((y.li || !meets x.wr y.rd) && (!meets x.wr y.wr && (!meets x.wr y.fz && ((x.li || !meets y.wr x.rd) && (!meets y.wr x.fz && (!meets x.ky y.rd && !meets y.ky x.rd))))))))))))
def orAt : List Nat → Nat → Nat → Nat
  | [], _, _ => 0
  | c :: cs, m, i => (if m.testBit i then c else 0) ||| orAt cs m (i + 1)
def closeGo : List Nat → List Nat → List Nat
  | acc, [] => acc
  | acc, m :: ms => closeGo (acc ++ [m ||| orAt acc m 0]) ms
def clOK (b cl : List Nat) : Bool := b.length == cl.length && (b.zip cl).all fun p => p.2 == (p.1 ||| orAt cl p.1 0)
def lowB : Nat → List Nat → Bool
  | _, [] => true
  | i, m :: ms => decide (m < 2 ^ i) && lowB (i + 1) ms
def chkTail (cl : List Nat) (i : Nat) (x : TS) : Nat → List TS → Bool
  | _, [] => true
  | j, y :: ys => ((cl.getD j 0).testBit i || indB x y) && chkTail cl i x (j + 1) ys
def chkGo (cl : List Nat) : Nat → List TS → Bool
  | _, [] => true
  | i, x :: xs => chkTail cl i x (i + 1) xs && chkGo cl (i + 1) xs
/-- May the region's operations go in any order that the edges leave? -/
def chk (b : List Nat) (acc : List TS) : Bool := clOK b (closeGo [] b) && (lowB 0 b && (acc.length == b.length && chkGo (closeGo [] b) 0 acc.reverse))

def evTab (T : Tab) (b : List Nat) : List AOp → St → List TS → (St → Prop) → Prop
  | [], σ, acc, K => chk b acc = true ∧ K σ
  | o :: os, σ, acc, K => match ev T o σ with
    | .ok n v e => n ∧ evTab T b os (σ.upd o.d v e) (tsOf σ o v e :: acc) K
    | _ => False

def vc (T : Tab) : C → (Ex → St → Prop) → St → Prop
  | .skip, Q, σ => Q .norm σ
  | .reg ops, Q, σ => evOps T ops σ (Q .norm)
  | .regd ops b, Q, σ => evTab T b ops σ [] (Q .norm)
  | .seq a b, Q, σ => vc T a (andThen Q (vc T b Q)) σ
  | .cond c a b, Q, σ => match c.val σ.env with
    | .bool t => (t = true → vc T a Q σ) ∧ (t = false → vc T b Q σ)
    | .g d (.bool t) => d = true ∧ (t = true → vc T a Q σ) ∧ (t = false → vc T b Q σ)
    | _ => False
  | .block id c, Q, σ => vc T c (inBlock id Q) σ
  | .loop c, Q, σ => ∃ I : Nat → St → Prop, (∃ n σ', Ent σ σ' ∧ I n σ') ∧ ∀ n σ, I n σ → vc T c (andThen Q fun σ' => ∃ n' σ'', n' < n ∧ Ent σ' σ'' ∧ I n' σ'') σ
  | .exit id, Q, σ => Q (.exit id) σ
  | .ret, Q, σ => Q .ret σ
  | .cut c, Q, σ => ∃ σ', Ent σ σ' ∧ vc T c Q σ'
end Go.AM
