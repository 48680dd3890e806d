import Derived.Test.YtbcbgfkojmligaaAFin
import Derived.Test.YtbcbgfkojmligaaAEntL
import Derived.Test.YtbcbgfkojmligaaAEqs
/- Part of an abstract machine for Go code and of its soundness, for any program of the model; no condition. -/
set_option linter.unusedVariables false
set_option linter.unusedSimpArgs false
set_option linter.unusedSimpArgs false
namespace Go.AM
/-- a pair of data -/
def pr {a b : Ty} (x : den a) (y : den b) : den (.pair a b) := (x, y)
@[go_sem] theorem pr_fst {a b : Ty} (x : den a) (y : den b) : (pr x y).1 = x := rfl
@[go_sem] theorem pr_snd {a b : Ty} (x : den a) (y : den b) : (pr x y).2 = y := rfl
/-- the answer of an operation whose operands may have been made under a test -/
def R.under (vs : List AV) : R → R
  | .ok n v e => .ok (sureL vs ∧ n) v e
  | .amb n p => .amb (sureL vs ∧ n) p
  | .no => .no
@[go_sem] theorem under_ok {vs n v e} : R.under vs (.ok n v e) = .ok (sureL vs ∧ n) v e := rfl
@[go_sem] theorem under_amb {vs n p} : R.under vs (.amb n p) = .amb (sureL vs ∧ n) p := rfl
section
variable {T : Tab} {d : Nat} {H : Heap} {vs : List AV}
@[go_sem] theorem run1_mv  : run1 T d H .mv vs = R.under vs (run T d H .mv (bareL vs)) := rfl
@[go_sem] theorem run1_box  : run1 T d H .box vs = R.under vs (run T d H .box (bareL vs)) := rfl
@[go_sem] theorem run1_alloc (x1 : List AV) : run1 T d H (.alloc x1) vs = R.under vs (run T d H (.alloc x1) (bareL vs)) := rfl
@[go_sem] theorem run1_allocA (x1 : Ty) (x2 : Nat) : run1 T d H (.allocA x1 x2) vs = R.under vs (run T d H (.allocA x1 x2) (bareL vs)) := rfl
@[go_sem] theorem run1_load (x1 : Nat) (x2 : Bool) : run1 T d H (.load x1 x2) vs = R.under vs (run T d H (.load x1 x2) (bareL vs)) := rfl
@[go_sem] theorem run1_store (x1 : Nat) : run1 T d H (.store x1) vs = R.under vs (run T d H (.store x1) (bareL vs)) := rfl
@[go_sem] theorem run1_fld (x1 : Nat) : run1 T d H (.fld x1) vs = R.under vs (run T d H (.fld x1) (bareL vs)) := rfl
@[go_sem] theorem run1_idx (x1 : Nat) : run1 T d H (.idx x1) vs = R.under vs (run T d H (.idx x1) (bareL vs)) := rfl
@[go_sem] theorem run1_aidx (x1 x2 : Nat) : run1 T d H (.aidx x1 x2) vs = R.under vs (run T d H (.aidx x1 x2) (bareL vs)) := rfl
@[go_sem] theorem run1_bin (x1 : BinOp) : run1 T d H (.bin x1) vs = R.under vs (run T d H (.bin x1) (bareL vs)) := rfl
@[go_sem] theorem run1_binb (x1 : BinOp) : run1 T d H (.binb x1) vs = R.under vs (run T d H (.binb x1) (bareL vs)) := rfl
@[go_sem] theorem run1_bina (x1 : BinOp) (x2 : List Sc) : run1 T d H (.bina x1 x2) vs = R.under vs (run T d H (.bina x1 x2) (bareL vs)) := rfl
@[go_sem] theorem run1_isnil  : run1 T d H .isnil vs = R.under vs (run T d H .isnil (bareL vs)) := rfl
@[go_sem] theorem run1_neg  : run1 T d H .neg vs = R.under vs (run T d H .neg (bareL vs)) := rfl
@[go_sem] theorem run1_not  : run1 T d H .not vs = R.under vs (run T d H .not (bareL vs)) := rfl
@[go_sem] theorem run1_build (x1 : List AV) (x2 : List (Nat × Nat)) : run1 T d H (.build x1 x2) vs = R.under vs (run T d H (.build x1 x2) (bareL vs)) := rfl
@[go_sem] theorem run1_bslice (x1 : Ty) (x2 : Nat) : run1 T d H (.bslice x1 x2) vs = R.under vs (run T d H (.bslice x1 x2) (bareL vs)) := rfl
@[go_sem] theorem run1_mks (x1 : Ty) (x2 : Nat) : run1 T d H (.mks x1 x2) vs = R.under vs (run T d H (.mks x1 x2) (bareL vs)) := rfl
@[go_sem] theorem run1_slc (x1 : Nat) (x2 x3 x4 : Bool) : run1 T d H (.slc x1 x2 x3 x4) vs = R.under vs (run T d H (.slc x1 x2 x3 x4) (bareL vs)) := rfl
@[go_sem] theorem run1_slcs (x1 x2 : Bool) : run1 T d H (.slcs x1 x2) vs = R.under vs (run T d H (.slcs x1 x2) (bareL vs)) := rfl
@[go_sem] theorem run1_len  : run1 T d H .len vs = R.under vs (run T d H .len (bareL vs)) := rfl
@[go_sem] theorem run1_lens  : run1 T d H .lens vs = R.under vs (run T d H .lens (bareL vs)) := rfl
@[go_sem] theorem run1_app (x1 x2 : Nat) : run1 T d H (.app x1 x2) vs = R.under vs (run T d H (.app x1 x2) (bareL vs)) := rfl
@[go_sem] theorem run1_mn  : run1 T d H .mn vs = R.under vs (run T d H .mn (bareL vs)) := rfl
@[go_sem] theorem run1_mx  : run1 T d H .mx vs = R.under vs (run T d H .mx (bareL vs)) := rfl
@[go_sem] theorem run1_ext (x1 : Nat) : run1 T d H (.ext x1) vs = R.under vs (run T d H (.ext x1) (bareL vs)) := rfl
@[go_sem] theorem run1_call (x1 : Nat) : run1 T d H (.call x1) vs = R.under vs (run T d H (.call x1) (bareL vs)) := rfl
@[go_sem] theorem run1_callv  : run1 T d H .callv vs = R.under vs (run T d H .callv (bareL vs)) := rfl
@[go_sem] theorem run1_clo (x1 : Nat) : run1 T d H (.clo x1) vs = R.under vs (run T d H (.clo x1) (bareL vs)) := rfl
@[go_sem] theorem run1_nilchk  : run1 T d H .nilchk vs = R.under vs (run T d H .nilchk (bareL vs)) := rfl
@[go_sem] theorem run1_index (x1 x2 : Nat) : run1 T d H (.index x1 x2) vs = R.under vs (run T d H (.index x1 x2) (bareL vs)) := rfl
@[go_sem] theorem run1_field (x1 x2 : Nat) (x3 : Bool) : run1 T d H (.field x1 x2 x3) vs = R.under vs (run T d H (.field x1 x2 x3) (bareL vs)) := rfl
end
def condK (T : Tab) (a b : C) (Q : Ex → St → Prop) (σ : St) : AV → Prop
  | .bool t => (t = true → vc T a Q σ) ∧ (t = false → vc T b Q σ)
  | .g d (.bool t) => d = true ∧ (t = true → vc T a Q σ) ∧ (t = false → vc T b Q σ)
  | _ => False
def tabK (T : Tab) (b : List Nat) (o : AOp) (os : List AOp) (σ : St) (acc : List TS) (K : St → Prop) : R → Prop
  | .ok n v e => n ∧ evTab T b os (σ.upd o.d v e) (tsOf σ o v e :: acc) K
  | _ => False
theorem condK_congr {T a b Q σ} {v v' : AV} (h : v = v') : condK T a b Q σ v = condK T a b Q σ v' := by rw [h]
theorem tabK_congr {T b o os σ acc K} {r r' : R} (h : r = r') : tabK T b o os σ acc K r = tabK T b o os σ acc K r' := by rw [h]
theorem vc_congr {T : Tab} {c Q} {σ σ' : St} (h : σ = σ') : vc T c Q σ = vc T c Q σ' := by rw [h]
theorem evOps_congr {T : Tab} {ops K} {σ σ' : St} (h : σ = σ') : evOps T ops σ K = evOps T ops σ' K := by rw [h]
theorem evTab_congr {T : Tab} {b ops K} {σ σ' : St} {acc acc' : List TS} (h : σ = σ') (h' : acc = acc') : evTab T b ops σ acc K = evTab T b ops σ' acc' K := by rw [h, h']
theorem bind_congr {r r' : R} {K} (h : r = r') : r.bind K = r'.bind K := by rw [h]
section
variable {T : Tab} {d : Nat} {H : Heap} {v p x y i s : AV} {vs cs caps : List AV} {k : K} {kk : IntKind} {n m a b c : Int} {j l o S N : Nat}
@[go_sem] theorem under_ite {c : Prop} [Decidable c] {r r' : R} : R.under vs (if c then r else r') = if c then R.under vs r else R.under vs r' := by split <;> rfl
@[go_sem] theorem run_allocA {t n} : run T d H (.allocA t n) [] = if (hget H d).isNone then .ok True (.rptr d 0 0) { put := [(d, .row t (List.replicate n (dflt t)) false)] } else .no := rfl
@[go_sem] theorem run_aidx_ptr {k off kk i} : run T d H (.aidx S N) [.ptr k off, .int kk i] = .ok (0 ≤ i ∧ i < N) (.ptr k (off + i.toNat * S)) {} := rfl
@[go_sem] theorem run_aidx_rptr {k kk i} : run T d H (.aidx S N) [.rptr k 0 0, .int kk i] = match hget H k with
    | some (.row t xs _) => if size t = S then .ok (0 ≤ i ∧ i < N ∧ i < xs.length) (.rptr k i.toNat 0) {} else .no
    | _ => .no := rfl
@[go_sem] theorem run_bina {op sh xs ys} : run T d H (.bina op sh) [.agg xs, .agg ys] = match aggEq sh xs ys with
    | some r => match op with
      | .eql => .ok True (.bool r) {}
      | .neq => .ok True (.bool (!r)) {}
      | _ => .no
    | none => .no := rfl
@[go_sem] theorem run_isnil {t xs f} : run T d H .isnil [.sl t xs f] = .amb True fun b => xs ≠ [] → b = false := rfl
@[go_sem] theorem run_neg {k n} : run T d H .neg [.int k n] = arith .sub k 0 n := rfl
@[go_sem] theorem run_build {zs ps} : run T d H (.build zs ps) vs = match layAll zs ps vs with
    | some cs => .ok True (.agg cs) {}
    | none => .no := by cases vs <;> rfl
@[go_sem] theorem run_bslice {t n} : run T d H (.bslice t n) vs = if vs.length = n then match dataAll H t vs with
      | some xs => .ok True (.sl t xs true) { frz := vs.flatMap (keysV H) }
      | none => .no
    else .no := by cases vs <;> rfl
@[go_sem] theorem run_mks {t bytes l c} : run T d H (.mks t bytes) [.int .i64 l, .int .i64 c] = if (hget H d).isNone then
      .ok (0 ≤ l ∧ l ≤ c ∧ c ≤ 140737488355328 ∧ c * bytes ≤ 140737488355328) (.own d 0 l.toNat) { put := [(d, .row t (List.replicate l.toNat (dflt t)) false)] } else .no := rfl
@[go_sem] theorem run_slc {lo hi mx x} : run T d H (.slc S lo hi mx) (x :: vs) = slcR H S lo hi mx x vs := rfl
@[go_sem] theorem run_slcs {lo hi x} : run T d H (.slcs lo hi) (x :: vs) = slcsR lo hi x vs := rfl
@[go_sem] theorem run_lens {s} : run T d H .lens [.str s] = .ok True (.int .i64 s.size) {} := rfl
@[go_sem] theorem run_app {b s x} : run T d H (.app S b) [s, x] = appR d H S b s x := rfl
@[go_sem] theorem run_mn {x} : run T d H .mn (.int .i64 x :: vs) = match foldI min x vs with
    | some n => .ok True (.int .i64 n) {}
    | none => .no := rfl
@[go_sem] theorem run_mx {x} : run T d H .mx (.int .i64 x :: vs) = match foldI max x vs with
    | some n => .ok True (.int .i64 n) {}
    | none => .no := rfl
@[go_sem] theorem run_ext0 {v vs} : run T d H (.ext 0) [.tup (v :: vs)] = .ok True v {} := rfl
@[go_sem] theorem run_ext1 {u v vs} : run T d H (.ext 1) [.tup (u :: v :: vs)] = .ok True v {} := rfl
@[go_sem] theorem run_ext2 {t u v vs} : run T d H (.ext 2) [.tup (t :: u :: v :: vs)] = .ok True v {} := rfl
@[go_sem] theorem run_ext3 {r t u v vs} : run T d H (.ext 3) [.tup (r :: t :: u :: v :: vs)] = .ok True v {} := rfl
@[go_sem] theorem run_callv_clo {f caps} : run T d H .callv (.clo f caps :: vs) = callF T d f H (vs ++ caps) := rfl
@[go_sem] theorem run_callv_fv {a r p} : run T d H .callv (.fv a r p :: vs) = if okRes r then match toArgs T H a vs with
      | some x => callR d H vs True a r (p x)
      | none => .no
    else .no := rfl
@[go_sem] theorem run_clo {f} : run T d H (.clo f) vs = .ok True (.clo f vs) {} := by cases vs <;> rfl
@[go_sem] theorem run_nilchk_ptr {k o} : run T d H .nilchk [.ptr k o] = .ok True (.ptr k o) {} := rfl
@[go_sem] theorem run_nilchk_rptr {k i o} : run T d H .nilchk [.rptr k i o] = .ok True (.rptr k i o) {} := rfl
@[go_sem] theorem run_nilchk_el {t x o} : run T d H .nilchk [.el t x o] = .ok True (.el t x o) {} := rfl
@[go_sem] theorem run_nilchk_clo {f c} : run T d H .nilchk [.clo f c] = .ok True (.clo f c) {} := rfl
@[go_sem] theorem run_nilchk_fv {a r p} : run T d H .nilchk [.fv a r p] = .ok True (.fv a r p) {} := rfl
@[go_sem] theorem run_index {cs k i} : run T d H (.index S N) [.agg cs, .int k i] = if S = 1 then match aggInts cs with
      | some l => .ok (0 ≤ i ∧ i < N ∧ l.length = N) (.int .i64 (l.getD i.toNat 0)) {}
      | none => .no
    else .no := rfl
@[go_sem] theorem run_field {off n g cs} : run T d H (.field off n g) [.agg cs] = .ofCells g (cut cs off n) := rfl
@[go_sem] theorem bin_str_add {a b : ByteArray} : bin .add (.str a) (.str b) = .ok (a.size + b.size ≤ 1099511627776) (.str (a ++ b)) {} := rfl
@[go_sem] theorem bin_str_eql {a b : ByteArray} : bin .eql (.str a) (.str b) = .ok True (.bool (a.toList == b.toList)) {} := rfl
@[go_sem] theorem bin_str_neq {a b : ByteArray} : bin .neq (.str a) (.str b) = .ok True (.bool (!(a.toList == b.toList))) {} := rfl
@[go_sem] theorem foldI_nil {f x} : foldI f x [] = some x := rfl
@[go_sem] theorem foldI_cons {f x y} : foldI f x (.int .i64 y :: vs) = foldI f (f x y) vs := rfl
@[go_sem] theorem aggInts_nil : aggInts [] = some [] := rfl
@[go_sem] theorem aggInts_cons {n} : aggInts (.int .i64 n :: vs) = match aggInts vs with
    | some l => some (n :: l)
    | none => none := rfl
@[go_sem] theorem aggEq_nil : aggEq [] [] [] = some true := rfl
@[go_sem] theorem aggEq_i {sh k k' a b xs ys} : aggEq (.i :: sh) (.int k a :: xs) (.int k' b :: ys) = match aggEq sh xs ys with
    | some r => if k = k' then some (decide (a = b) && r) else none
    | none => none := rfl
@[go_sem] theorem aggEq_b {sh a b xs ys} : aggEq (.b :: sh) (.bool a :: xs) (.bool b :: ys) = match aggEq sh xs ys with
    | some r => some ((a == b) && r)
    | none => none := rfl
@[go_sem] theorem aggEq_s {sh a b xs ys} : aggEq (.s :: sh) (.str a :: xs) (.str b :: ys) = match aggEq sh xs ys with
    | some r => some ((a.toList == b.toList) && r)
    | none => none := rfl
@[go_sem] theorem layAll_nil {zs} : layAll zs [] [] = some zs := rfl
@[go_sem] theorem layAll_cons {zs off n ps v vs} : layAll zs ((off, n) :: ps) (v :: vs) = if (cellsOf v).length = n ∧ (cellsOf v).all AV.one then match lay zs off (cellsOf v) with
      | some zs => layAll zs ps vs
      | none => none
    else none := rfl
@[go_sem] theorem dataAll_nil {t} : dataAll H t [] = some [] := rfl
@[go_sem] theorem dataAll_cons {t v vs} : dataAll H t (v :: vs) = match toV H t v with
    | some x => match dataAll H t vs with
      | some xs => some (x :: xs)
      | none => none
    | none => none := rfl
@[go_sem] theorem slcR_sl {t xs full lo hi mx} : slcR H S lo hi mx (.sl t xs full) vs = if size t = S then match bounds xs.length lo hi mx vs with
      | some (l, h, m) => .ok (0 ≤ l ∧ l ≤ h ∧ h ≤ m ∧ m ≤ xs.length)
        (.sl t ((xs.take h.toNat).drop l.toNat) (if mx then decide (h = m) else if hi then false else full)) {}
      | none => .no
    else .no := rfl
@[go_sem] theorem slcR_own {k lo0 n lo hi mx} : slcR H S lo hi mx (.own k lo0 n) vs = match hget H k with
    | some (.row t _ _) => if size t = S ∧ mx = false then match bounds n lo hi mx vs with
        | some (l, h, _) => .ok (0 ≤ l ∧ l ≤ h ∧ h ≤ n) (.own k (lo0 + l.toNat) (h.toNat - l.toNat)) {}
        | none => .no
      else .no
    | _ => .no := rfl
@[go_sem] theorem slcsR_str {s lo hi} : slcsR lo hi (.str s) vs = match bounds s.size lo hi false vs with
      | some (l, h, _) => .ok (0 ≤ l ∧ l ≤ h ∧ h ≤ s.size) (.str (s.extract l.toNat h.toNat)) {}
      | none => .no := rfl
@[go_sem] theorem bounds_0 {n : Nat} : bounds n false false false [] = some (0, (n : Int), (n : Int)) := rfl
@[go_sem] theorem bounds_l {n : Nat} {l} : bounds n true false false [.int .i64 l] = some (l, (n : Int), (n : Int)) := rfl
@[go_sem] theorem bounds_h {n : Nat} {h} : bounds n false true false [.int .i64 h] = some (0, h, (n : Int)) := rfl
@[go_sem] theorem bounds_lh {n : Nat} {l h} : bounds n true true false [.int .i64 l, .int .i64 h] = some (l, h, (n : Int)) := rfl
@[go_sem] theorem bounds_hm {n : Nat} {h m} : bounds n false true true [.int .i64 h, .int .i64 m] = some (0, h, m) := rfl
@[go_sem] theorem bounds_lhm {n : Nat} {l h m} : bounds n true true true [.int .i64 l, .int .i64 h, .int .i64 m] = some (l, h, m) := rfl
@[go_sem] theorem appR_sl {b t xs x} : appR d H S b (.sl t xs true) x = if size t = S ∧ (hget H d).isNone then match slOf H t x with
      | some ys => .ok ((xs = [] ∨ ys ≠ []) ∧ xs.length + ys.length ≤ 140737488355328 ∧ (xs.length + ys.length) * b ≤ 140737488355328) (.own d 0 (xs.length + ys.length))
        { put := [(d, .row t (xs ++ ys) false)] }
      | none => .no
    else .no := rfl
@[go_sem] theorem appR_own {b k lo n x} : appR d H S b (.own k lo n) x = match hget H k with
    | some (.row t xs false) => if size t = S ∧ (k = d ∨ (hget H d).isNone) then match slOf H t x with
        | some ys => .ok (n + ys.length ≤ 140737488355328 ∧ (n + ys.length) * b ≤ 140737488355328) (.own d 0 (n + ys.length))
          { frz := [], del := [k], put := [(d, .row t ((xs.drop lo).take n ++ ys) false)] }
        | none => .no
      else .no
    | _ => .no := rfl
@[go_sem] theorem slOf_sl {t xs f} : slOf H t (.sl t xs f) = some xs := by simp [slOf, castL?]
@[go_sem] theorem slOf_own {t k lo n} : slOf H t (.own k lo n) = match hget H k with
    | some (.row t' xs _) => castL? t' t ((xs.drop lo).take n)
    | _ => none := rfl
@[go_sem] theorem tget_nil : tget [] j = none := rfl
@[go_sem] theorem tget_cons {i v e} : tget ((i, v) :: e) j = if i = j then some v else tget e j := rfl
@[go_sem] theorem callF_eq {f} : callF T d f H vs = match tget T f with
  | some fn => match toArgs T H fn.a vs with
    | some x => callR d H vs (fn.pre x) fn.a fn.r (fn.f x)
    | none => .no
  | none => .no := rfl
@[go_sem] theorem toArgs_nil : toArgs T H .unit [] = some () := rfl
@[go_sem] theorem toArgs_cons {t b v vs} : toArgs T H (.pair t b) (v :: vs) = match toP T H t v with
    | some x => match toArgs T H b vs with
      | some y => some (x, y)
      | none => none
    | none => none := rfl
@[go_sem] theorem toP_int {k v} : toP T H (.int k) v = toV H (.int k) v := by cases v <;> rfl
@[go_sem] theorem toP_bool {v} : toP T H .bool v = toV H .bool v := by cases v <;> rfl
@[go_sem] theorem toP_str {v} : toP T H .str v = toV H .str v := by cases v <;> rfl
@[go_sem] theorem toP_list {t v} : toP T H (.list t) v = toV H (.list t) v := by cases v <;> rfl
@[go_sem] theorem toP_pair {t b v} : toP T H (.pair t b) v = toV H (.pair t b) v := by cases v <;> rfl
@[go_sem] theorem toP_ref {t v} : toP T H (.ref t) v = toV H (.ref t) v := by cases v <;> rfl
@[go_sem] theorem toP_fn_fv {a r p} : toP T H (.fn a r) (.fv a r p) = some p := by simp [toP, toV, toCells]
@[go_sem] theorem toP_fn_clo {a r f caps} : toP T H (.fn a r) (.clo f caps) = match tget T f with
    | some fn => match dropTy a fn.a with
      | some c => match toArgs0 H c caps with
        | some y => fnAs a r fn c y
        | none => none
      | none => none
    | none => none := rfl
@[go_sem] theorem toV_int {k n} : toV H (.int k) (.int k n) = some n := by simp [toV, toCells]
@[go_sem] theorem toV_bool {b} : toV H .bool (.bool b) = some b := by simp [toV, toCells]
@[go_sem] theorem toV_str {b} : toV H .str (.str b) = some b := by simp [toV, toCells]
@[go_sem] theorem toV_list_sl {t xs f} : toV H (.list t) (.sl t xs f) = some xs := by simp [toV, toCells, slOf, castL?]
@[go_sem] theorem toV_list_own {t k lo n} : toV H (.list t) (.own k lo n) = slOf H t (.own k lo n) := by
  simp only [toV, toCells]; cases slOf H t (.own k lo n) <;> rfl
@[go_sem] theorem toV_pair {a b cs} : toV H (.pair a b) (.agg cs) = match toCells H (.pair a b) cs with
    | some (x, []) => some x
    | _ => none := rfl
@[go_sem] theorem toV_ref_ptr {t k} : toV H (.ref t) (.ptr k 0) = if noRef t then match hget H k with
      | some (.box bs) => match toCells H t bs with
        | some (x, []) => some x
        | _ => none
      | _ => none
    else none := by
  simp only [toV, toCells]
  by_cases h : noRef t = true
  · rw [if_pos h, if_pos h]
    cases hget H k with
    | none => rfl
    | some o => cases o with
      | row t' xs f => rfl
      | box bs =>
        simp only
        cases toCells H t bs with
        | none => rfl
        | some p => obtain ⟨x, r⟩ := p; cases r <;> rfl
  · rw [if_neg h, if_neg h]
@[go_sem] theorem toV_ref_el {t x} : toV H (.ref t) (.el t x 0) = some x := by simp [toV, toCells, cast?]
@[go_sem] theorem toCells_unit : toCells H .unit cs = some ((), cs) := by cases cs <;> rfl
@[go_sem] theorem toCells_pair {a b cs} : toCells H (.pair a b) cs = match toCells H a cs with
    | some (x, cs1) => match toCells H b cs1 with
      | some (y, cs2) => some (pr x y, cs2)
      | none => none
    | none => none := rfl
@[go_sem] theorem toCells_int {k n cs} : toCells H (.int k) (.int k n :: cs) = some (n, cs) := by simp [toCells]
@[go_sem] theorem toCells_bool {n cs} : toCells H .bool (.bool n :: cs) = some (n, cs) := rfl
@[go_sem] theorem toCells_str {n cs} : toCells H .str (.str n :: cs) = some (n, cs) := rfl
@[go_sem] theorem toCells_list {t c cs} : toCells H (.list t) (c :: cs) = match slOf H t c with
    | some xs => some (xs, cs)
    | none => none := by cases c <;> rfl
@[go_sem] theorem callR_eq {pre a r} {y : den r} : callR d H vs pre a r y = if hasAny H (ofRes d r y).2 || !(flat r || noRef a) then .no else
  .ok pre (ofRes d r y).1 { frz := if flat r then [] else vs.flatMap (keysV H), put := (ofRes d r y).2 } := rfl
@[go_sem] theorem hasAny_nil : hasAny H [] = false := rfl
@[go_sem] theorem hasAny_c {k o ps} : hasAny H ((k, o) :: ps) = ((hget H k).isSome || hasAny H ps) := rfl
@[go_sem] theorem flat_int {k} : flat (.int k) = true := rfl
@[go_sem] theorem flat_bool : flat .bool = true := rfl
@[go_sem] theorem flat_str : flat .str = true := rfl
@[go_sem] theorem flat_unit : flat .unit = true := rfl
@[go_sem] theorem flat_list {t} : flat (.list t) = false := rfl
@[go_sem] theorem flat_olist {t} : flat (.olist t) = false := rfl
@[go_sem] theorem flat_pair {a b} : flat (.pair a b) = (flat a && flat b) := rfl
@[go_sem] theorem noRef_int {k} : noRef (.int k) = true := rfl
@[go_sem] theorem noRef_bool : noRef .bool = true := rfl
@[go_sem] theorem noRef_str : noRef .str = true := rfl
@[go_sem] theorem noRef_unit : noRef .unit = true := rfl
@[go_sem] theorem noRef_list {t} : noRef (.list t) = true := rfl
@[go_sem] theorem noRef_olist {t} : noRef (.olist t) = true := rfl
@[go_sem] theorem noRef_fn {a r} : noRef (.fn a r) = true := rfl
@[go_sem] theorem noRef_ref {t} : noRef (.ref t) = false := rfl
@[go_sem] theorem noRef_pair {a b} : noRef (.pair a b) = (noRef a && noRef b) := rfl
@[go_sem] theorem okRes_pair {a b} : okRes (.pair a b) = (plain a && okRes b) := rfl
@[go_sem] theorem okRes_unit : okRes .unit = true := rfl
@[go_sem] theorem plain_int {k} : plain (.int k) = true := rfl
@[go_sem] theorem plain_bool : plain .bool = true := rfl
@[go_sem] theorem plain_str : plain .str = true := rfl
@[go_sem] theorem plain_unit : plain .unit = true := rfl
@[go_sem] theorem plain_list {t} : plain (.list t) = (plain t && decide (0 < size t)) := rfl
@[go_sem] theorem plain_olist {t} : plain (.olist t) = (plain t && decide (0 < size t)) := rfl
@[go_sem] theorem plain_pair {a b} : plain (.pair a b) = (plain a && plain b) := rfl
@[go_sem] theorem size_int {k} : size (.int k) = 1 := rfl
@[go_sem] theorem size_bool : size .bool = 1 := rfl
@[go_sem] theorem size_str : size .str = 1 := rfl
@[go_sem] theorem size_list {t} : size (.list t) = 1 := rfl
@[go_sem] theorem size_unit : size .unit = 0 := rfl
@[go_sem] theorem size_pair {a b} : size (.pair a b) = size a + size b := rfl
@[go_sem] theorem ofRes_own {t} {y : den (.pair (.olist t) .unit)} : ofRes d (.pair (.olist t) .unit) y = (.own d 0 y.1.length, [(d, .row t y.1 false)]) := rfl
@[go_sem] theorem ofRes_int {k} {y : den (.pair (.int k) .unit)} : ofRes d (.pair (.int k) .unit) y = (.int k y.1, []) := rfl
@[go_sem] theorem ofRes_bool {y : den (.pair .bool .unit)} : ofRes d (.pair .bool .unit) y = (.bool y.1, []) := rfl
@[go_sem] theorem ofRes_str {y : den (.pair .str .unit)} : ofRes d (.pair .str .unit) y = (.str y.1, []) := rfl
@[go_sem] theorem ofRes_list {t} {y : den (.pair (.list t) .unit)} : ofRes d (.pair (.list t) .unit) y = (.sl t y.1 false, []) := rfl
@[go_sem] theorem ofRes_pair {a b} {y : den (.pair (.pair a b) .unit)} : ofRes d (.pair (.pair a b) .unit) y = (.agg (cellsA a y.1.1 (cellsA b y.1.2 [])), []) := rfl
@[go_sem] theorem ofRes_many {a b c} {y : den (.pair a (.pair b c))} : ofRes d (.pair a (.pair b c)) y = (.tup (ofRes.go (10000 + 100 * d) (.pair a (.pair b c)) y).1, (ofRes.go (10000 + 100 * d) (.pair a (.pair b c)) y).2) := by cases a <;> rfl
@[go_sem] theorem ofRes_unit {y : den .unit} : ofRes d .unit y = (.tup [], []) := rfl
@[go_sem] theorem go_own {t b} {y : den (.pair (.olist t) b)} : ofRes.go j (.pair (.olist t) b) y = (.own j 0 y.1.length :: (ofRes.go (j + 1) b y.2).1, (j, .row t y.1 false) :: (ofRes.go (j + 1) b y.2).2) := rfl
@[go_sem] theorem go_int {k b} {y : den (.pair (.int k) b)} : ofRes.go j (.pair (.int k) b) y = (.int k y.1 :: (ofRes.go (j + 1) b y.2).1, (ofRes.go (j + 1) b y.2).2) := rfl
@[go_sem] theorem go_bool {b} {y : den (.pair .bool b)} : ofRes.go j (.pair .bool b) y = (.bool y.1 :: (ofRes.go (j + 1) b y.2).1, (ofRes.go (j + 1) b y.2).2) := rfl
@[go_sem] theorem go_str {b} {y : den (.pair .str b)} : ofRes.go j (.pair .str b) y = (.str y.1 :: (ofRes.go (j + 1) b y.2).1, (ofRes.go (j + 1) b y.2).2) := rfl
@[go_sem] theorem go_list {t b} {y : den (.pair (.list t) b)} : ofRes.go j (.pair (.list t) b) y = (.sl t y.1 false :: (ofRes.go (j + 1) b y.2).1, (ofRes.go (j + 1) b y.2).2) := rfl
@[go_sem] theorem go_pair {a c b} {y : den (.pair (.pair a c) b)} : ofRes.go j (.pair (.pair a c) b) y = (.agg (cellsA a y.1.1 (cellsA c y.1.2 [])) :: (ofRes.go (j + 1) b y.2).1, (ofRes.go (j + 1) b y.2).2) := rfl
@[go_sem] theorem go_unit {y : den .unit} : ofRes.go j .unit y = ([], []) := rfl
@[go_sem] theorem keysV_own {k a b} : keysV H (.own k a b) = [k] := rfl
@[go_sem] theorem keysV_agg {cs} : keysV H (.agg cs) = keysC cs := rfl
@[go_sem] theorem keysV_ptr {k o} : keysV H (.ptr k o) = match hget H k with
    | some (.box cs) => keysC cs
    | _ => [] := rfl
@[go_sem] theorem keysV_int {k n} : keysV H (.int k n) = [] := rfl
@[go_sem] theorem keysV_bool {b} : keysV H (.bool b) = [] := rfl
@[go_sem] theorem keysV_str {b} : keysV H (.str b) = [] := rfl
@[go_sem] theorem keysV_sl {t xs f} : keysV H (.sl t xs f) = [] := rfl
@[go_sem] theorem keysV_el {t xs f} : keysV H (.el t xs f) = [] := rfl
@[go_sem] theorem keysV_fv {a r p} : keysV H (.fv a r p) = [] := rfl
@[go_sem] theorem keysV_clo {f caps} : keysV H (.clo f caps) = caps.flatMap fun
    | .own k _ _ => [k]
    | .ptr k _ => match hget H k with
      | some (.box cs) => keysC cs
      | _ => []
    | _ => [] := rfl
@[go_sem] theorem keysC_nil : keysC [] = [] := rfl
@[go_sem] theorem keysC_own {k a b cs} : keysC (.own k a b :: cs) = k :: keysC cs := rfl
@[go_sem] theorem keysC_int {k n cs} : keysC (.int k n :: cs) = keysC cs := rfl
@[go_sem] theorem keysC_bool {n cs} : keysC (.bool n :: cs) = keysC cs := rfl
@[go_sem] theorem keysC_str {n cs} : keysC (.str n :: cs) = keysC cs := rfl
@[go_sem] theorem keysC_sl {t xs f cs} : keysC (.sl t xs f :: cs) = keysC cs := rfl
@[go_sem] theorem keysC_ptr {a b cs} : keysC (.ptr a b :: cs) = keysC cs := rfl
@[go_sem] theorem keysC_clo {a b cs} : keysC (.clo a b :: cs) = keysC cs := rfl
@[go_sem] theorem keysC_undef {cs} : keysC (.undef :: cs) = keysC cs := rfl
@[go_sem] theorem frzH_nil : frzH H [] = H := rfl
@[go_sem] theorem frzH_cons {k ks} : frzH H (k :: ks) = match hget H k with
    | some (.row t xs _) => frzH (hput H k (.row t xs true)) ks
    | _ => frzH H ks := rfl
def pickK (c a b : AV) : AV → AV → AV → R
  | .bool z, .bool x, .bool y => .ok (sure c ∧ (z = true → sure a) ∧ (z = false → sure b)) (.bool (bif z then x else y)) {}
  | _, _, _ => .no
@[go_sem] theorem pickR_eq {c a b} : pickR [c, a, b] = pickK c a b (bare c) (bare a) (bare b) := rfl
@[go_sem] theorem pickK_eq {c a b z x y} : pickK c a b (.bool z) (.bool x) (.bool y) = .ok (sure c ∧ (z = true → sure a) ∧ (z = false → sure b)) (.bool (bif z then x else y)) {} := rfl
@[go_sem] theorem actOf_bool {want b} : actOf want (.bool b) = some (bif want then b else !b) := rfl
@[go_sem] theorem actOf_g {want d b} : actOf want (.g d (.bool b)) = some (d && (bif want then b else !b)) := rfl
@[go_sem] theorem ev_some {dd k xs t want} {σ : St} : ev T ⟨dd, k, xs, some (t, want)⟩ σ = match actOf want (eget σ.env t) with
    | some act => match run1 T (dd.getD 0) σ.heap k (vals σ.env xs) with
      | .ok n v e => match e.quiet with
        | true => .ok (act = true → n) (.g act v) e
        | false => .no
      | _ => .no
    | none => .no := rfl
@[go_sem] theorem quiet_eq {f} : Eff.quiet ⟨f, [], []⟩ = true := rfl
@[go_sem] theorem bind_amb {n p Q} : (R.amb n p).bind Q = (n ∧ ∀ b, p b → Q True (.bool b) {}) := rfl
@[go_sem] theorem bind_no {Q} : R.no.bind Q = False := rfl
@[go_sem] theorem upd_frz {env heap dd v f ps} : St.upd ⟨env, heap⟩ dd v ⟨f, [], ps⟩ = ⟨setE env dd v, putAll (frzH heap f) ps⟩ := rfl
@[go_sem] theorem upd_del {env heap dd v f k ps} : St.upd ⟨env, heap⟩ dd v ⟨f, [k], ps⟩ = ⟨setE (killE k env) dd v, putAll (killH k (hdel (frzH heap f) k)) ps⟩ := rfl
@[go_sem] theorem setE_some {env dd v} : setE env (some dd) v = (dd, v) :: env := rfl
@[go_sem] theorem setE_none {env v} : setE env none v = env := rfl
@[go_sem] theorem putAll_nil : putAll H [] = H := rfl
@[go_sem] theorem putAll_cons {k o ps} : putAll H ((k, o) :: ps) = putAll (hput H k o) ps := rfl
@[go_sem] theorem hdel_nil {k} : hdel [] k = [] := rfl
@[go_sem] theorem hdel_cons {i v e k} : hdel ((i, v) :: e) k = if i = k then hdel e k else (i, v) :: hdel e k := rfl
@[go_sem] theorem killE_nil {k} : killE k [] = [] := rfl
@[go_sem] theorem killE_cons {k i v e} : killE k ((i, v) :: e) = (i, killV k v) :: killE k e := rfl
@[go_sem] theorem killH_nil {k} : killH k [] = [] := rfl
@[go_sem] theorem killH_cons {k i v e} : killH k ((i, v) :: e) = (i, killO k v) :: killH k e := rfl
@[go_sem] theorem killO_b {k cs} : killO k (.box cs) = .box (killL k cs) := rfl
@[go_sem] theorem killO_r {k t xs f} : killO k (.row t xs f) = .row t xs f := rfl
@[go_sem] theorem killL_nil {k} : killL k [] = [] := rfl
@[go_sem] theorem killL_cons {k v vs} : killL k (v :: vs) = killV k v :: killL k vs := rfl
@[go_sem] theorem killV_undef {k} : killV k .undef = .undef := rfl
@[go_sem] theorem killV_int {k kk n} : killV k (.int kk n) = .int kk n := rfl
@[go_sem] theorem killV_bool {k n} : killV k (.bool n) = .bool n := rfl
@[go_sem] theorem killV_str {k n} : killV k (.str n) = .str n := rfl
@[go_sem] theorem killV_sl {k t xs f} : killV k (.sl t xs f) = .sl t xs f := rfl
@[go_sem] theorem killV_el {k t xs f} : killV k (.el t xs f) = .el t xs f := rfl
@[go_sem] theorem killV_fv {k a r p} : killV k (.fv a r p) = .fv a r p := rfl
@[go_sem] theorem killV_own {k k' a b} : killV k (.own k' a b) = if k' = k then .undef else .own k' a b := rfl
@[go_sem] theorem killV_ptr {k k' a} : killV k (.ptr k' a) = if k' = k then .undef else .ptr k' a := rfl
@[go_sem] theorem killV_rptr {k k' a b} : killV k (.rptr k' a b) = if k' = k then .undef else .rptr k' a b := rfl
@[go_sem] theorem killV_agg {k cs} : killV k (.agg cs) = .agg (killL k cs) := by simp only [killV]
@[go_sem] theorem killV_tup {k cs} : killV k (.tup cs) = .tup (killL k cs) := by simp only [killV]
@[go_sem] theorem killV_clo {k f cs} : killV k (.clo f cs) = .clo f (killL k cs) := by simp only [killV]
@[go_sem] theorem killV_g {k b v} : killV k (.g b v) = .g b (killV k v) := by simp only [killV]
@[go_sem] theorem cellsOf_fv {a r p} : cellsOf (.fv a r p) = [.fv a r p] := rfl
@[go_sem] theorem cellsOf_el {a r p} : cellsOf (.el a r p) = [.el a r p] := rfl
@[go_sem] theorem one_fv {a r p} : AV.one (.fv a r p) = true := rfl
@[go_sem] theorem one_el {a r p} : AV.one (.el a r p) = true := rfl
@[go_sem] theorem vc_cond {T c a b Q} {σ : St} : vc T (.cond c a b) Q σ = condK T a b Q σ (c.val σ.env) := rfl
@[go_sem] theorem condK_true {T a b Q} {σ : St} : condK T a b Q σ (.bool true) = vc T a Q σ := by simp [condK]
@[go_sem] theorem condK_false {T a b Q} {σ : St} : condK T a b Q σ (.bool false) = vc T b Q σ := by simp [condK]
@[go_sem] theorem condK_bool {T a b Q t} {σ : St} : condK T a b Q σ (.bool t) = ((t = true → vc T a Q σ) ∧ (t = false → vc T b Q σ)) := rfl
@[go_sem] theorem condK_g {T a b Q d t} {σ : St} : condK T a b Q σ (.g d (.bool t)) = (d = true ∧ (t = true → vc T a Q σ) ∧ (t = false → vc T b Q σ)) := rfl
@[go_sem] theorem vc_regd {T ops b Q} {σ : St} : vc T (.regd ops b) Q σ = evTab T b ops σ [] (Q .norm) := rfl
@[go_sem] theorem inBlock_norm {i Q} {σ : St} : inBlock i Q .norm σ = Q .norm σ := rfl
@[go_sem] theorem inBlock_ret {i Q} {σ : St} : inBlock i Q .ret σ = Q .ret σ := rfl
@[go_sem] theorem inBlock_exit {i k Q} {σ : St} : inBlock i Q (.exit k) σ = if k = i then Q .norm σ else Q (.exit k) σ := rfl
@[go_sem] theorem RQ_norm {ros r} {y : den r} {σ : St} : RQ ros r y .norm σ = match readAll σ ros with
    | some vs => resP σ.heap r y vs [] []
    | none => False := rfl
@[go_sem] theorem RQ_ret {ros r} {y : den r} {σ : St} : RQ ros r y .ret σ = match readAll σ ros with
    | some vs => resP σ.heap r y vs [] []
    | none => False := rfl
@[go_sem] theorem readAll_nil {σ : St} : readAll σ [] = some [] := rfl
@[go_sem] theorem readAll_cons {σ : St} {r rs} : readAll σ (r :: rs) = match readO σ r with
    | some v => match readAll σ rs with
      | some vs => some (v :: vs)
      | none => none
    | none => none := rfl
@[go_sem] theorem readO_t {σ : St} {n} : readO σ (.t n) = some (eget σ.env n) := rfl
@[go_sem] theorem readO_c {σ : St} {n sz} : readO σ (.c n sz) = match eget σ.env n with
    | .ptr k 0 => match hget σ.heap k with
      | some (.box cs) => match cut cs 0 sz with
        | some r => some (.agg r)
        | none => none
      | _ => none
    | _ => none := rfl
@[go_sem] theorem resP_unit {y : den .unit} {os fs} : resP H .unit y [] os fs = True := rfl
@[go_sem] theorem resP_olist {t b} {y : den (.pair (.olist t) b)} {v vs os fs} : resP H (.pair (.olist t) b) y (v :: vs) os fs = match ownOf H t v with
    | some (xs, some k) => xs = y.1 ∧ k ∉ os ∧ k ∉ fs ∧ resP H b y.2 vs (k :: os) fs
    | some (xs, none) => xs = y.1 ∧ resP H b y.2 vs os fs
    | none => False := rfl
def resV (H : Heap) (t b : Ty) (y : den t) (z : den b) (v : AV) (vs : List AV) (os fs : List Nat) : Prop := match toV H t v with
    | some x => x = y ∧ noRef t = true ∧ (∀ k ∈ keysV H v, k ∉ os) ∧ resP H b z vs os (keysV H v ++ fs)
    | none => False
@[go_sem] theorem resV_eq {t b} {y : den t} {z : den b} {v vs os fs} : resV H t b y z v vs os fs = match toV H t v with
    | some x => x = y ∧ noRef t = true ∧ (∀ k ∈ keysV H v, k ∉ os) ∧ resP H b z vs os (keysV H v ++ fs)
    | none => False := rfl
@[go_sem] theorem resP_int {k b} {y : den (.pair (.int k) b)} {v vs os fs} : resP H (.pair (.int k) b) y (v :: vs) os fs = resV H (.int k) b y.1 y.2 v vs os fs := rfl
@[go_sem] theorem resP_bool {b} {y : den (.pair .bool b)} {v vs os fs} : resP H (.pair .bool b) y (v :: vs) os fs = resV H .bool b y.1 y.2 v vs os fs := rfl
@[go_sem] theorem resP_str {b} {y : den (.pair .str b)} {v vs os fs} : resP H (.pair .str b) y (v :: vs) os fs = resV H .str b y.1 y.2 v vs os fs := rfl
@[go_sem] theorem resP_list {t b} {y : den (.pair (.list t) b)} {v vs os fs} : resP H (.pair (.list t) b) y (v :: vs) os fs = resV H (.list t) b y.1 y.2 v vs os fs := rfl
@[go_sem] theorem resP_pair {a c b} {y : den (.pair (.pair a c) b)} {v vs os fs} : resP H (.pair (.pair a c) b) y (v :: vs) os fs = resV H (.pair a c) b y.1 y.2 v vs os fs := rfl
@[go_sem] theorem ownOf_own {t k n} : ownOf H t (.own k 0 n) = match hget H k with
    | some (.row t' xs false) => match castL? t' t (xs.take n) with
      | some ys => some (ys, some k)
      | none => none
    | _ => none := rfl
def ownNil {α : Type} : List α → Option (List α × Option Nat)
  | [] => some ([], none)
  | _ => none
@[go_sem] theorem ownNil_nil {α : Type} : ownNil ([] : List α) = some ([], none) := rfl
@[go_sem] theorem ownOf_nil {t} {xs : List (den t)} : ownOf H t (.sl t xs true) = ownNil xs := by cases xs <;> simp [ownOf, ownNil]
@[go_sem] theorem initEnv_nil : initEnv j [] = [] := rfl
@[go_sem] theorem initEnv_cons {v vs} : initEnv j (v :: vs) = (j, v) :: initEnv (j + 1) vs := rfl
@[go_sem] theorem ofArgs_unit {x : den .unit} : ofArgs .unit x = [] := rfl
@[go_sem] theorem ofArgs_pair {t b} {x : den (.pair t b)} : ofArgs (.pair t b) x = ofV t x.1 :: ofArgs b x.2 := rfl
@[go_sem] theorem ofV_fn {a r} {p : den (.fn a r)} : ofV (.fn a r) p = .fv a r p := rfl
@[go_sem] theorem ofV_ref {t} {x : den (.ref t)} : ofV (.ref t) x = .el t x 0 := rfl
/-! drawn regions -/
@[go_sem] theorem evTab_nil {b acc K} {σ : St} : evTab T b [] σ acc K = (chk b acc = true ∧ K σ) := rfl
@[go_sem] theorem evTab_cons {b acc K} {σ : St} {o os} : evTab T b (o :: os) σ acc K = tabK T b o os σ acc K (ev T o σ) := rfl
@[go_sem] theorem tabK_ok {b acc K n v e} {σ : St} {o os} : tabK T b o os σ acc K (.ok n v e) = (n ∧ evTab T b os (σ.upd o.d v e) (tsOf σ o v e :: acc) K) := rfl
@[go_sem] theorem tsOf_eq {o v e} {σ : St} : tsOf σ o v e = ⟨o.d, o.tmps, rdOf σ o v e, e.keys ++ kbOf σ.heap e.del, e.frz, ktOf σ.env e.del⟩ := rfl
@[go_sem] theorem rdOf_eq {o v e} {σ : St} : rdOf σ o v e = nmB o.k σ.heap (vals σ.env o.xs) ++ (nm v ++ (nmPut e.put ++ (nmK σ.heap e.keys ++ nmD σ.env o.d))) := rfl
@[go_sem] theorem nmB_eq {k} : nmB k H vs = nmL vs ++ (bif deep k then nmK H (nmL vs) else []) := rfl
attribute [go_sem] deep
@[go_sem] theorem nmL_nil : nmL [] = [] := rfl
@[go_sem] theorem nmL_cons {v vs} : nmL (v :: vs) = nm v ++ nmL vs := rfl
@[go_sem] theorem nm_undef : nm .undef = [] := rfl
@[go_sem] theorem nm_int {k n} : nm (.int k n) = [] := rfl
@[go_sem] theorem nm_bool {n} : nm (.bool n) = [] := rfl
@[go_sem] theorem nm_str {n} : nm (.str n) = [] := rfl
@[go_sem] theorem nm_sl {t xs f} : nm (.sl t xs f) = [] := rfl
@[go_sem] theorem nm_el {t xs f} : nm (.el t xs f) = [] := rfl
@[go_sem] theorem nm_fv {t xs f} : nm (.fv t xs f) = [] := rfl
@[go_sem] theorem nm_own {k a b} : nm (.own k a b) = [k] := rfl
@[go_sem] theorem nm_ptr {k a} : nm (.ptr k a) = [k] := rfl
@[go_sem] theorem nm_rptr {k a b} : nm (.rptr k a b) = [k] := rfl
@[go_sem] theorem nm_agg {cs} : nm (.agg cs) = nmL cs := by simp only [nm]
@[go_sem] theorem nm_tup {cs} : nm (.tup cs) = nmL cs := by simp only [nm]
@[go_sem] theorem nm_clo {f cs} : nm (.clo f cs) = nmL cs := by simp only [nm]
@[go_sem] theorem nm_g {b v} : nm (.g b v) = nm v := by simp only [nm]
@[go_sem] theorem nmK_nil : nmK H [] = [] := rfl
@[go_sem] theorem nmK_cons {k ks} : nmK H (k :: ks) = nmO (hget H k) ++ nmK H ks := rfl
@[go_sem] theorem nmO_none : nmO none = [] := rfl
@[go_sem] theorem nmO_box {cs} : nmO (some (.box cs)) = nmL cs := rfl
@[go_sem] theorem nmO_row {t xs f} : nmO (some (.row t xs f)) = [] := rfl
@[go_sem] theorem nmPut_nil : nmPut [] = [] := rfl
@[go_sem] theorem nmPut_cons {k o ps} : nmPut ((k, o) :: ps) = nmO (some o) ++ nmPut ps := rfl
@[go_sem] theorem nmD_none {E} : nmD E none = [] := rfl
@[go_sem] theorem nmD_some {E n} : nmD E (some n) = nm (eget E n) := rfl
@[go_sem] theorem effkeys_eq {f ds ps} : Eff.keys ⟨f, ds, ps⟩ = ps.map (·.1) ++ ds := rfl
@[go_sem] theorem optmps_none {dd k xs} : AOp.tmps ⟨dd, k, xs, none⟩ = xsTmps xs := rfl
@[go_sem] theorem optmps_some {dd k xs t w} : AOp.tmps ⟨dd, k, xs, some (t, w)⟩ = t :: xsTmps xs := rfl
@[go_sem] theorem xsTmps_nil : xsTmps [] = [] := rfl
@[go_sem] theorem xsTmps_t {n xs} : xsTmps (.t n :: xs) = n :: xsTmps xs := rfl
@[go_sem] theorem xsTmps_c {n xs} : xsTmps (.c n :: xs) = xsTmps xs := rfl
@[go_sem] theorem kbOf_nil : kbOf H [] = [] := rfl
@[go_sem] theorem kbOf_one {k} : kbOf H [k] = kbGo [k] H := rfl
@[go_sem] theorem ktOf_nil {E} : ktOf E [] = [] := rfl
@[go_sem] theorem ktOf_one {E k} : ktOf E [k] = ktGo [k] E := rfl
@[go_sem] theorem kbGo_nil {ks} : kbGo ks [] = [] := rfl
@[go_sem] theorem kbGo_cons {ks i o h} : kbGo ks ((i, o) :: h) = if meets ks (nmO (some o)) then i :: kbGo ks h else kbGo ks h := rfl
@[go_sem] theorem ktGo_nil {ks} : ktGo ks [] = [] := rfl
@[go_sem] theorem ktGo_cons {ks i v h} : ktGo ks ((i, v) :: h) = if meets ks (nm v) then i :: ktGo ks h else ktGo ks h := rfl
@[go_sem] theorem meets_nil {ks} : meets ks [] = false := rfl
@[go_sem] theorem meets_cons {k i is} : meets [k] (i :: is) = (decide (i = k) || meets [k] is) := by simp [meets, Bool.beq_eq_decide_eq]
end
end Go.AM
