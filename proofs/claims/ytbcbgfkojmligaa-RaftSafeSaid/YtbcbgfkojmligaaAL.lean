import Derived.Test.YtbcbgfkojmligaaAC
import Derived.Test.YtbcbgfkojmligaaAK
/- Part of an abstract machine for Go code and of its soundness, for any program of the model; no condition. -/
set_option maxHeartbeats 4000000
set_option linter.unusedVariables false
set_option linter.unusedSimpArgs false
namespace Go.AM
section
variable {T : Tab} {d : Nat} {H : Heap} {v p x y i s : AV} {vs cs caps : List AV} {k : K} {kk : IntKind} {n m a b c : Int} {j l o S N : Nat}
@[go_sem] theorem eget_cons {e : Env} {i j : Nat} {v} : eget ((i, v) :: e) j = if i = j then v else eget e j := rfl
@[go_sem] theorem hget_nil {j : Nat} : hget [] j = none := rfl
@[go_sem] theorem hget_cons {e : Heap} {i j : Nat} {v} : hget ((i, v) :: e) j = if i = j then some v else hget e j := rfl
@[go_sem] theorem hput_nil {k o} : hput [] k o = [(k, o)] := rfl
@[go_sem] theorem hput_cons {e : Heap} {i k : Nat} {v o} : hput ((i, v) :: e) k o = if i = k then (k, o) :: e else (i, v) :: hput e k o := rfl
@[go_sem] theorem cells_int {k n l} : cellsA (.int k) n l = .int k n :: l := rfl
@[go_sem] theorem cells_bool {n l} : cellsA .bool n l = .bool n :: l := rfl
@[go_sem] theorem cells_str {n l} : cellsA .str n l = .str n :: l := rfl
@[go_sem] theorem cells_list {t n l} : cellsA (.list t) n l = .sl t n false :: l := rfl
@[go_sem] theorem cells_flist {t n l} : cellsA (.flist t) n l = .sl t n true :: l := rfl
@[go_sem] theorem cells_unit {n l} : cellsA .unit n l = l := rfl
@[go_sem] theorem cells_pair {a b x l} : cellsA (.pair a b) x l = cellsA a x.1 (cellsA b x.2 l) := rfl
@[go_sem] theorem cells_def {t x} : cells t x = cellsA t x [] := rfl
@[go_sem] theorem ofV_int {k n} : ofV (.int k) n = .int k n := rfl
@[go_sem] theorem ofV_bool {n} : ofV .bool n = .bool n := rfl
@[go_sem] theorem ofV_str {n} : ofV .str n = .str n := rfl
@[go_sem] theorem ofV_list {t n} : ofV (.list t) n = .sl t n false := rfl
@[go_sem] theorem ofV_flist {t n} : ofV (.flist t) n = .sl t n true := rfl
@[go_sem] theorem ofV_pair {a b x} : ofV (.pair a b) x = .agg (cellsA a x.1 (cellsA b x.2 [])) := rfl
@[go_sem] theorem cellsOf_agg : cellsOf (.agg cs) = cs := rfl
@[go_sem] theorem cellsOf_int : cellsOf (.int kk n) = [.int kk n] := rfl
@[go_sem] theorem cellsOf_bool {b} : cellsOf (.bool b) = [.bool b] := rfl
@[go_sem] theorem cellsOf_str {b} : cellsOf (.str b) = [.str b] := rfl
@[go_sem] theorem cellsOf_sl {t xs f} : cellsOf (.sl t xs f) = [.sl t xs f] := rfl
@[go_sem] theorem cellsOf_own {a b c} : cellsOf (.own a b c) = [.own a b c] := rfl
@[go_sem] theorem cellsOf_ptr {a b} : cellsOf (.ptr a b) = [.ptr a b] := rfl
@[go_sem] theorem cellsOf_clo {a b} : cellsOf (.clo a b) = [.clo a b] := rfl
@[go_sem] theorem one_nilf : AV.one .nilf = true := rfl
@[go_sem] theorem one_int : AV.one (.int kk n) = true := rfl
@[go_sem] theorem one_bool {b} : AV.one (.bool b) = true := rfl
@[go_sem] theorem one_str {b} : AV.one (.str b) = true := rfl
@[go_sem] theorem one_sl {t xs f} : AV.one (.sl t xs f) = true := rfl
@[go_sem] theorem one_own {a b c} : AV.one (.own a b c) = true := rfl
@[go_sem] theorem one_ptr {a b} : AV.one (.ptr a b) = true := rfl
@[go_sem] theorem one_clo {a b} : AV.one (.clo a b) = true := rfl
@[go_sem] theorem vals_nil {e : Env} : vals e [] = [] := rfl
@[go_sem] theorem vals_cons {e : Env} {x xs} : vals e (x :: xs) = x.val e :: vals e xs := rfl
@[go_sem] theorem val_t {e : Env} {n} : Opd.val e (.t n) = eget e n := rfl
@[go_sem] theorem val_c {e : Env} {v} : Opd.val e (.c v) = v := rfl
@[go_sem] theorem bareL_nil : bareL [] = [] := rfl
@[go_sem] theorem bareL_cons : bareL (v :: vs) = bare v :: bareL vs := rfl
@[go_sem] theorem sureL_nil : sureL [] = True := rfl
@[go_sem] theorem sureL_cons : sureL (v :: vs) = (sure v ∧ sureL vs) := rfl
@[go_sem] theorem bare_g {b} : bare (.g b v) = v := rfl
@[go_sem] theorem bare_int : bare (.int kk n) = .int kk n := rfl
@[go_sem] theorem bare_bool {b} : bare (.bool b) = .bool b := rfl
@[go_sem] theorem bare_str {b} : bare (.str b) = .str b := rfl
@[go_sem] theorem bare_sl {t xs f} : bare (.sl t xs f) = .sl t xs f := rfl
@[go_sem] theorem bare_own {a b c} : bare (.own a b c) = .own a b c := rfl
@[go_sem] theorem bare_ptr {a b} : bare (.ptr a b) = .ptr a b := rfl
@[go_sem] theorem bare_rptr {a b c} : bare (.rptr a b c) = .rptr a b c := rfl
@[go_sem] theorem bare_el {t x o} : bare (.el t x o) = .el t x o := rfl
@[go_sem] theorem bare_agg : bare (.agg cs) = .agg cs := rfl
@[go_sem] theorem bare_tup : bare (.tup cs) = .tup cs := rfl
@[go_sem] theorem bare_clo {a b} : bare (.clo a b) = .clo a b := rfl
@[go_sem] theorem bare_fv {a r p} : bare (.fv a r p) = .fv a r p := rfl
@[go_sem] theorem sure_g {b} : sure (.g b v) = (b = true) := rfl
@[go_sem] theorem sure_int : sure (.int kk n) = True := rfl
@[go_sem] theorem sure_bool {b} : sure (.bool b) = True := rfl
@[go_sem] theorem sure_str {b} : sure (.str b) = True := rfl
@[go_sem] theorem sure_sl {t xs f} : sure (.sl t xs f) = True := rfl
@[go_sem] theorem sure_own {a b c} : sure (.own a b c) = True := rfl
@[go_sem] theorem sure_ptr {a b} : sure (.ptr a b) = True := rfl
@[go_sem] theorem sure_rptr {a b c} : sure (.rptr a b c) = True := rfl
@[go_sem] theorem sure_el {t x o} : sure (.el t x o) = True := rfl
@[go_sem] theorem sure_agg : sure (.agg cs) = True := rfl
@[go_sem] theorem sure_tup : sure (.tup cs) = True := rfl
@[go_sem] theorem sure_clo {a b} : sure (.clo a b) = True := rfl
@[go_sem] theorem sure_fv {a r p} : sure (.fv a r p) = True := rfl
@[go_sem] theorem cut_0 {cs} : cut cs 0 0 = some [] := by cases cs <;> rfl
@[go_sem] theorem cut_c0 {c} : cut (c :: cs) 0 (N + 1) = match cut cs 0 N with
    | some r => some (c :: r)
    | none => none := rfl
@[go_sem] theorem cut_cs {c} : cut (c :: cs) (o + 1) N = cut cs o N := by cases N <;> rfl
@[go_sem] theorem lay_nil : lay cs 0 [] = some cs := by cases cs <;> rfl
@[go_sem] theorem lay_c0 {c} : lay (c :: cs) 0 (x :: vs) = match lay cs 0 vs with
    | some r => some (x :: r)
    | none => none := rfl
@[go_sem] theorem lay_cs {c} : lay (c :: cs) (o + 1) vs = match lay cs o vs with
    | some r => some (c :: r)
    | none => none := by cases vs <;> rfl
@[go_sem] theorem ofCells_agg {cs} : R.ofCells true (some cs) = .ok True (.agg cs) {} := rfl
@[go_sem] theorem ofCells_one {c} : R.ofCells false (some [c]) = .ok True c {} := rfl
@[go_sem] theorem loadR_ptr {k off N g} : loadR H N g (.ptr k off) = match hget H k with
    | some (.box cs) => .ofCells g (cut cs off N)
    | _ => .no := rfl
@[go_sem] theorem loadR_rptr {k i off N g} : loadR H N g (.rptr k i off) = match hget H k with
    | some (.row t xs _) => .ofCells g (cut (cells t (xs.getD i (dflt t))) off N)
    | _ => .no := rfl
@[go_sem] theorem loadR_el {t x off N g} : loadR H N g (.el t x off) = .ofCells g (cut (cells t x) off N) := rfl
@[go_sem] theorem storeR_ptr {k off N} : storeR H N (.ptr k off) v = if (cellsOf v).length = N ∧ (cellsOf v).all AV.one then match hget H k with
      | some (.box cs) => match lay cs off (cellsOf v) with
        | some cs => .ok True .undef { put := [(k, .box cs)] }
        | none => .no
      | _ => .no
    else .no := rfl
@[go_sem] theorem storeR_rptr {k i off N} : storeR H N (.rptr k i off) v = if (cellsOf v).length = N ∧ (cellsOf v).all AV.one then match hget H k with
      | some (.row t xs false) => if noRef t then match lay (cells t (xs.getD i (dflt t))) off (cellsOf v) with
        | some cs => match toCells H t cs with
          | some (x, []) => if (keysC (cellsOf v)).contains k then .no else .ok True .undef { frz := keysC (cellsOf v), put := [(k, .row t (xs.set i x) false)] }
          | _ => .no
        | none => .no
        else .no
      | _ => .no
    else .no := rfl
@[go_sem] theorem fldR_ptr {k off} : fldR o (.ptr k off) = .ok True (.ptr k (off + o)) {} := rfl
@[go_sem] theorem fldR_rptr {k i off} : fldR o (.rptr k i off) = .ok True (.rptr k i (off + o)) {} := rfl
@[go_sem] theorem fldR_el {t x off} : fldR o (.el t x off) = .ok True (.el t x (off + o)) {} := rfl
@[go_sem] theorem idxR_sl {t xs f k n} : idxR H S (.sl t xs f) (.int k n) = if size t = S then .ok (0 ≤ n ∧ n < xs.length) (.el t (xs.getD n.toNat (dflt t)) 0) {} else .no := rfl
@[go_sem] theorem idxR_own {k lo len kk n} : idxR H S (.own k lo len) (.int kk n) = match hget H k with
    | some (.row t _ _) => if size t = S then .ok (0 ≤ n ∧ n < len) (.rptr k (lo + n.toNat) 0) {} else .no
    | _ => .no := rfl
@[go_sem] theorem bin_int {op k k' x y} : bin op (.int k x) (.int k' y) = if k = k' then arith op k x y else .no := rfl
@[go_sem] theorem arith_add : arith .add .i64 a b = .ok (InR .i64 (a + b)) (.int .i64 (a + b)) {} := rfl
@[go_sem] theorem arith_sub : arith .sub .i64 a b = .ok (InR .i64 (a - b)) (.int .i64 (a - b)) {} := rfl
@[go_sem] theorem arith_mul : arith .mul .i64 a b = .ok (InR .i64 (a * b)) (.int .i64 (a * b)) {} := rfl
@[go_sem] theorem arith_quo : arith .quo kk a b = .ok (b ≠ 0 ∧ InR kk (a.tdiv b)) (.int kk (a.tdiv b)) {} := rfl
@[go_sem] theorem arith_rem : arith .rem kk a b = .ok (b ≠ 0) (.int kk (a.tmod b)) {} := rfl
@[go_sem] theorem arith_eql : arith .eql kk a b = .ok True (.bool (decide (a = b))) {} := rfl
@[go_sem] theorem arith_neq : arith .neq kk a b = .ok True (.bool (!decide (a = b))) {} := rfl
@[go_sem] theorem arith_lss : arith .lss kk a b = .ok True (.bool (decide (a < b))) {} := rfl
@[go_sem] theorem arith_leq : arith .leq kk a b = .ok True (.bool (decide (a ≤ b))) {} := rfl
@[go_sem] theorem arith_gtr : arith .gtr kk a b = .ok True (.bool (decide (b < a))) {} := rfl
@[go_sem] theorem arith_geq : arith .geq kk a b = .ok True (.bool (decide (b ≤ a))) {} := rfl
@[go_sem] theorem run_mv : run T d H .mv [v] = .ok True v {} := rfl
@[go_sem] theorem run_box : run T d H .box [v] = if (hget H d).isNone ∧ (cellsOf v).all AV.one then .ok True (.ptr d 0) { put := [(d, .box (cellsOf v))] } else .no := rfl
@[go_sem] theorem run_alloc : run T d H (.alloc cs) [] = if (hget H d).isNone then .ok True (.ptr d 0) { put := [(d, .box cs)] } else .no := rfl
@[go_sem] theorem run_load {N g} : run T d H (.load N g) [p] = loadR H N g p := rfl
@[go_sem] theorem run_store {N} : run T d H (.store N) [p, v] = storeR H N p v := rfl
@[go_sem] theorem run_fld : run T d H (.fld o) [p] = fldR o p := rfl
@[go_sem] theorem run_idx : run T d H (.idx S) [x, i] = idxR H S x i := rfl
@[go_sem] theorem run_bin {op} : run T d H (.bin op) [x, y] = bin op x y := rfl
@[go_sem] theorem run_binb_eql {a b} : run T d H (.binb .eql) [.bool a, .bool b] = .ok True (.bool (a == b)) {} := rfl
@[go_sem] theorem run_binb_neq {a b} : run T d H (.binb .neq) [.bool a, .bool b] = .ok True (.bool (!(a == b))) {} := rfl
@[go_sem] theorem run_not {b} : run T d H .not [.bool b] = .ok True (.bool (!b)) {} := rfl
@[go_sem] theorem run_len_sl {t xs f} : run T d H .len [.sl t xs f] = .ok True (.int .i64 xs.length) {} := rfl
@[go_sem] theorem run_len_own {k lo n} : run T d H .len [.own k lo n] = .ok True (.int .i64 n) {} := rfl
@[go_sem] theorem run_call {f} : run T d H (.call f) vs = callF T d f H vs := by cases vs <;> rfl
@[go_sem] theorem run1_pick : run1 T d H .pick vs = pickR vs := rfl
@[go_sem] theorem ev_none {dd k xs} {σ : St} : ev T ⟨dd, k, xs, none⟩ σ = run1 T (dd.getD 0) σ.heap k (vals σ.env xs) := rfl
@[go_sem] theorem evOps_nil {σ : St} {Q} : evOps T [] σ Q = Q σ := rfl
@[go_sem] theorem evOps_cons {op os} {σ : St} {Q} : evOps T (op :: os) σ Q = (ev T op σ).bind fun n v e => n ∧ evOps T os (σ.upd op.d v e) Q := rfl
@[go_sem] theorem bind_ok {n v e Q} : (R.ok n v e).bind Q = Q n v e := rfl
@[go_sem] theorem upd_plain {env heap dd v} : St.upd ⟨env, heap⟩ (some dd) v {} = ⟨(dd, v) :: env, heap⟩ := rfl
@[go_sem] theorem upd_put1 {env heap dd v k o} : St.upd ⟨env, heap⟩ (some dd) v ⟨[], [], [(k, o)]⟩ = ⟨(dd, v) :: env, hput heap k o⟩ := rfl
@[go_sem] theorem upd_put1n {env heap v k o} : St.upd ⟨env, heap⟩ none v ⟨[], [], [(k, o)]⟩ = ⟨env, hput heap k o⟩ := rfl
variable {Q : Ex → St → Prop} {σ : St}
@[go_sem] theorem vc_skip : vc T .skip Q σ = Q .norm σ := rfl
@[go_sem] theorem vc_reg {ops} : vc T (.reg ops) Q σ = evOps T ops σ (Q .norm) := rfl
@[go_sem] theorem vc_seq {a b} : vc T (.seq a b) Q σ = vc T a (andThen Q (vc T b Q)) σ := rfl
@[go_sem] theorem vc_ret : vc T .ret Q σ = Q .ret σ := rfl
@[go_sem] theorem vc_exit {c} : vc T (.exit c) Q σ = Q (.exit c) σ := rfl
@[go_sem] theorem vc_block {i c} : vc T (.block i c) Q σ = vc T c (inBlock i Q) σ := rfl
@[go_sem] theorem then_norm {K} : andThen Q K .norm σ = K σ := rfl
@[go_sem] theorem then_ret {K} : andThen Q K .ret σ = Q .ret σ := rfl
@[go_sem] theorem then_exit {K i} : andThen Q K (.exit i) σ = Q (.exit i) σ := rfl
end
end Go.AM

set_option linter.unusedSimpArgs false
namespace Go.AM
/-- a pair of data -/
def pr {a b : Ty} (x : den a) (y : den b) : den (.pair a b) := (x, y)
@[go_sem] theorem pr_fst {a b : Ty} (x : den a) (y : den b) : (pr x y).1 = x := rfl
@[go_sem] theorem pr_snd {a b : Ty} (x : den a) (y : den b) : (pr x y).2 = y := rfl
/-- the answer of an operation whose operands may have been made under a test -/
def R.under (vs : List AV) : R → R
  | .ok n v e => .ok (sureL vs ∧ n) v e
  | .amb n p => .amb (sureL vs ∧ n) p
  | .no => .no
@[go_sem] theorem under_ok {vs n v e} : R.under vs (.ok n v e) = .ok (sureL vs ∧ n) v e := rfl
@[go_sem] theorem under_amb {vs n p} : R.under vs (.amb n p) = .amb (sureL vs ∧ n) p := rfl
section
variable {T : Tab} {d : Nat} {H : Heap} {vs : List AV}
@[go_sem] theorem run1_mv  : run1 T d H .mv vs = R.under vs (run T d H .mv (bareL vs)) := rfl
@[go_sem] theorem run1_box  : run1 T d H .box vs = R.under vs (run T d H .box (bareL vs)) := rfl
@[go_sem] theorem run1_alloc (x1 : List AV) : run1 T d H (.alloc x1) vs = R.under vs (run T d H (.alloc x1) (bareL vs)) := rfl
@[go_sem] theorem run1_allocA (x1 : Ty) (x2 : Nat) : run1 T d H (.allocA x1 x2) vs = R.under vs (run T d H (.allocA x1 x2) (bareL vs)) := rfl
@[go_sem] theorem run1_load (x1 : Nat) (x2 : Bool) : run1 T d H (.load x1 x2) vs = R.under vs (run T d H (.load x1 x2) (bareL vs)) := rfl
@[go_sem] theorem run1_store (x1 : Nat) : run1 T d H (.store x1) vs = R.under vs (run T d H (.store x1) (bareL vs)) := rfl
@[go_sem] theorem run1_fld (x1 : Nat) : run1 T d H (.fld x1) vs = R.under vs (run T d H (.fld x1) (bareL vs)) := rfl
@[go_sem] theorem run1_idx (x1 : Nat) : run1 T d H (.idx x1) vs = R.under vs (run T d H (.idx x1) (bareL vs)) := rfl
@[go_sem] theorem run1_aidx (x1 x2 : Nat) : run1 T d H (.aidx x1 x2) vs = R.under vs (run T d H (.aidx x1 x2) (bareL vs)) := rfl
@[go_sem] theorem run1_bin (x1 : BinOp) : run1 T d H (.bin x1) vs = R.under vs (run T d H (.bin x1) (bareL vs)) := rfl
@[go_sem] theorem run1_binb (x1 : BinOp) : run1 T d H (.binb x1) vs = R.under vs (run T d H (.binb x1) (bareL vs)) := rfl
@[go_sem] theorem run1_bina (x1 : BinOp) (x2 : List Sc) : run1 T d H (.bina x1 x2) vs = R.under vs (run T d H (.bina x1 x2) (bareL vs)) := rfl
@[go_sem] theorem run1_isnil  : run1 T d H .isnil vs = R.under vs (run T d H .isnil (bareL vs)) := rfl
@[go_sem] theorem run1_neg  : run1 T d H .neg vs = R.under vs (run T d H .neg (bareL vs)) := rfl
@[go_sem] theorem run1_not  : run1 T d H .not vs = R.under vs (run T d H .not (bareL vs)) := rfl
@[go_sem] theorem run1_build (x1 : List AV) (x2 : List (Nat × Nat)) : run1 T d H (.build x1 x2) vs = R.under vs (run T d H (.build x1 x2) (bareL vs)) := rfl
@[go_sem] theorem run1_bslice (x1 : Ty) (x2 : Nat) : run1 T d H (.bslice x1 x2) vs = R.under vs (run T d H (.bslice x1 x2) (bareL vs)) := rfl
@[go_sem] theorem run1_mks (x1 : Ty) (x2 : Nat) : run1 T d H (.mks x1 x2) vs = R.under vs (run T d H (.mks x1 x2) (bareL vs)) := rfl
@[go_sem] theorem run1_slc (x1 : Nat) (x2 x3 x4 : Bool) : run1 T d H (.slc x1 x2 x3 x4) vs = R.under vs (run T d H (.slc x1 x2 x3 x4) (bareL vs)) := rfl
@[go_sem] theorem run1_slcs (x1 x2 : Bool) : run1 T d H (.slcs x1 x2) vs = R.under vs (run T d H (.slcs x1 x2) (bareL vs)) := rfl
@[go_sem] theorem run1_len  : run1 T d H .len vs = R.under vs (run T d H .len (bareL vs)) := rfl
@[go_sem] theorem run1_lens  : run1 T d H .lens vs = R.under vs (run T d H .lens (bareL vs)) := rfl
@[go_sem] theorem run1_app (x1 x2 : Nat) : run1 T d H (.app x1 x2) vs = R.under vs (run T d H (.app x1 x2) (bareL vs)) := rfl
@[go_sem] theorem run1_mn  : run1 T d H .mn vs = R.under vs (run T d H .mn (bareL vs)) := rfl
@[go_sem] theorem run1_mx  : run1 T d H .mx vs = R.under vs (run T d H .mx (bareL vs)) := rfl
@[go_sem] theorem run1_ext (x1 : Nat) : run1 T d H (.ext x1) vs = R.under vs (run T d H (.ext x1) (bareL vs)) := rfl
@[go_sem] theorem run1_call (x1 : Nat) : run1 T d H (.call x1) vs = R.under vs (run T d H (.call x1) (bareL vs)) := rfl
@[go_sem] theorem run1_callv  : run1 T d H .callv vs = R.under vs (run T d H .callv (bareL vs)) := rfl
@[go_sem] theorem run1_clo (x1 : Nat) : run1 T d H (.clo x1) vs = R.under vs (run T d H (.clo x1) (bareL vs)) := rfl
@[go_sem] theorem run1_nilchk  : run1 T d H .nilchk vs = R.under vs (run T d H .nilchk (bareL vs)) := rfl
@[go_sem] theorem run1_index (x1 x2 : Nat) : run1 T d H (.index x1 x2) vs = R.under vs (run T d H (.index x1 x2) (bareL vs)) := rfl
@[go_sem] theorem run1_field (x1 x2 : Nat) (x3 : Bool) : run1 T d H (.field x1 x2 x3) vs = R.under vs (run T d H (.field x1 x2 x3) (bareL vs)) := rfl
@[go_sem] theorem run1_mkm  : run1 T d H .mkm vs = R.under vs (run T d H .mkm (bareL vs)) := rfl
@[go_sem] theorem run1_mget  : run1 T d H .mget vs = R.under vs (run T d H .mget (bareL vs)) := rfl
@[go_sem] theorem run1_mput  : run1 T d H .mput vs = R.under vs (run T d H .mput (bareL vs)) := rfl
end
def condK (T : Tab) (a b : C) (Q : Ex → St → Prop) (σ : St) : AV → Prop
  | .bool t => (t = true → vc T a Q σ) ∧ (t = false → vc T b Q σ)
  | .g d (.bool t) => d = true ∧ (t = true → vc T a Q σ) ∧ (t = false → vc T b Q σ)
  | _ => False
def tabK (T : Tab) (b : List Nat) (o : AOp) (os : List AOp) (σ : St) (acc : List TS) (K : St → Prop) : R → Prop
  | .ok n v e => n ∧ evTab T b os (σ.upd o.d v e) (tsOf σ o v e :: acc) K
  | _ => False
theorem condK_congr {T a b Q σ} {v v' : AV} (h : v = v') : condK T a b Q σ v = condK T a b Q σ v' := by rw [h]
theorem tabK_congr {T b o os σ acc K} {r r' : R} (h : r = r') : tabK T b o os σ acc K r = tabK T b o os σ acc K r' := by rw [h]
theorem vc_congr {T : Tab} {c Q} {σ σ' : St} (h : σ = σ') : vc T c Q σ = vc T c Q σ' := by rw [h]
theorem evOps_congr {T : Tab} {ops K} {σ σ' : St} (h : σ = σ') : evOps T ops σ K = evOps T ops σ' K := by rw [h]
theorem evTab_congr {T : Tab} {b ops K} {σ σ' : St} {acc acc' : List TS} (h : σ = σ') (h' : acc = acc') : evTab T b ops σ acc K = evTab T b ops σ' acc' K := by rw [h, h']
theorem bind_congr {r r' : R} {K} (h : r = r') : r.bind K = r'.bind K := by rw [h]
section
variable {T : Tab} {d : Nat} {H : Heap} {v p x y i s : AV} {vs cs caps : List AV} {k : K} {kk : IntKind} {n m a b c : Int} {j l o S N : Nat}
@[go_sem] theorem under_ite {c : Prop} [Decidable c] {r r' : R} : R.under vs (if c then r else r') = if c then R.under vs r else R.under vs r' := by split <;> rfl
@[go_sem] theorem run_allocA {t n} : run T d H (.allocA t n) [] = if (hget H d).isNone then .ok True (.rptr d 0 0) { put := [(d, .row t (List.replicate n (dflt t)) false)] } else .no := rfl
@[go_sem] theorem run_aidx_ptr {k off kk i} : run T d H (.aidx S N) [.ptr k off, .int kk i] = .ok (0 ≤ i ∧ i < N) (.ptr k (off + i.toNat * S)) {} := rfl
@[go_sem] theorem run_aidx_rptr {k kk i} : run T d H (.aidx S N) [.rptr k 0 0, .int kk i] = match hget H k with
    | some (.row t xs _) => if size t = S then .ok (0 ≤ i ∧ i < N ∧ i < xs.length) (.rptr k i.toNat 0) {} else .no
    | _ => .no := rfl
@[go_sem] theorem run_bina {op sh xs ys} : run T d H (.bina op sh) [.agg xs, .agg ys] = match aggEq sh xs ys with
    | some r => match op with
      | .eql => .ok True (.bool r) {}
      | .neq => .ok True (.bool (!r)) {}
      | _ => .no
    | none => .no := rfl
@[go_sem] theorem run_isnil {t xs f} : run T d H .isnil [.sl t xs f] = .amb True fun b => xs ≠ [] → b = false := rfl
@[go_sem] theorem run_neg {k n} : run T d H .neg [.int k n] = arith .sub k 0 n := rfl
@[go_sem] theorem run_build {zs ps} : run T d H (.build zs ps) vs = match layAll zs ps vs with
    | some cs => .ok True (.agg cs) {}
    | none => .no := by cases vs <;> rfl
@[go_sem] theorem run_bslice {t n} : run T d H (.bslice t n) vs = if vs.length = n then match dataAll H t vs with
      | some xs => .ok True (.sl t xs true) { frz := vs.flatMap (keysV H) }
      | none => .no
    else .no := by cases vs <;> rfl
@[go_sem] theorem run_mks {t bytes l c} : run T d H (.mks t bytes) [.int .i64 l, .int .i64 c] = if (hget H d).isNone then
      .ok (0 ≤ l ∧ l ≤ c ∧ c ≤ 140737488355328 ∧ c * bytes ≤ 140737488355328) (.own d 0 l.toNat) { put := [(d, .row t (List.replicate l.toNat (dflt t)) false)] } else .no := rfl
@[go_sem] theorem run_slc {lo hi mx x} : run T d H (.slc S lo hi mx) (x :: vs) = slcR H S lo hi mx x vs := rfl
@[go_sem] theorem run_slcs {lo hi x} : run T d H (.slcs lo hi) (x :: vs) = slcsR lo hi x vs := rfl
@[go_sem] theorem run_lens {s} : run T d H .lens [.str s] = .ok True (.int .i64 s.size) {} := rfl
@[go_sem] theorem run_app {b s x} : run T d H (.app S b) [s, x] = appR d H S b s x := rfl
@[go_sem] theorem run_mn {x} : run T d H .mn (.int .i64 x :: vs) = match foldI min x vs with
    | some n => .ok True (.int .i64 n) {}
    | none => .no := rfl
@[go_sem] theorem run_mx {x} : run T d H .mx (.int .i64 x :: vs) = match foldI max x vs with
    | some n => .ok True (.int .i64 n) {}
    | none => .no := rfl
@[go_sem] theorem run_ext0 {v vs} : run T d H (.ext 0) [.tup (v :: vs)] = .ok True v {} := rfl
@[go_sem] theorem run_ext1 {u v vs} : run T d H (.ext 1) [.tup (u :: v :: vs)] = .ok True v {} := rfl
@[go_sem] theorem run_ext2 {t u v vs} : run T d H (.ext 2) [.tup (t :: u :: v :: vs)] = .ok True v {} := rfl
@[go_sem] theorem run_ext3 {r t u v vs} : run T d H (.ext 3) [.tup (r :: t :: u :: v :: vs)] = .ok True v {} := rfl
@[go_sem] theorem run_callv_clo {f caps} : run T d H .callv (.clo f caps :: vs) = callF T d f H (vs ++ caps) := rfl
@[go_sem] theorem run_callv_fv {a r p} : run T d H .callv (.fv a r p :: vs) = if okRes r then match toArgs T H a vs with
      | some x => callR d H vs True a r (p x)
      | none => .no
    else .no := rfl
@[go_sem] theorem run_clo {f} : run T d H (.clo f) vs = .ok True (.clo f vs) {} := by cases vs <;> rfl
@[go_sem] theorem run_nilchk_ptr {k o} : run T d H .nilchk [.ptr k o] = .ok True (.ptr k o) {} := rfl
@[go_sem] theorem run_nilchk_rptr {k i o} : run T d H .nilchk [.rptr k i o] = .ok True (.rptr k i o) {} := rfl
@[go_sem] theorem run_nilchk_el {t x o} : run T d H .nilchk [.el t x o] = .ok True (.el t x o) {} := rfl
@[go_sem] theorem run_nilchk_clo {f c} : run T d H .nilchk [.clo f c] = .ok True (.clo f c) {} := rfl
@[go_sem] theorem run_nilchk_fv {a r p} : run T d H .nilchk [.fv a r p] = .ok True (.fv a r p) {} := rfl
@[go_sem] theorem run_index {cs k i} : run T d H (.index S N) [.agg cs, .int k i] = if S = 1 then match aggInts cs with
      | some l => .ok (0 ≤ i ∧ i < N ∧ l.length = N) (.int .i64 (l.getD i.toNat 0)) {}
      | none => .no
    else .no := rfl
@[go_sem] theorem run_field {off n g cs} : run T d H (.field off n g) [.agg cs] = .ofCells g (cut cs off n) := rfl
@[go_sem] theorem bin_str_add {a b : ByteArray} : bin .add (.str a) (.str b) = .ok (a.size + b.size ≤ 1099511627776) (.str (a ++ b)) {} := rfl
@[go_sem] theorem bin_str_eql {a b : ByteArray} : bin .eql (.str a) (.str b) = .ok True (.bool (a.toList == b.toList)) {} := rfl
@[go_sem] theorem bin_str_neq {a b : ByteArray} : bin .neq (.str a) (.str b) = .ok True (.bool (!(a.toList == b.toList))) {} := rfl
@[go_sem] theorem foldI_nil {f x} : foldI f x [] = some x := rfl
@[go_sem] theorem foldI_cons {f x y} : foldI f x (.int .i64 y :: vs) = foldI f (f x y) vs := rfl
@[go_sem] theorem aggInts_nil : aggInts [] = some [] := rfl
@[go_sem] theorem aggInts_cons {n} : aggInts (.int .i64 n :: vs) = match aggInts vs with
    | some l => some (n :: l)
    | none => none := rfl
@[go_sem] theorem aggEq_nil : aggEq [] [] [] = some true := rfl
@[go_sem] theorem aggEq_i {sh k k' a b xs ys} : aggEq (.i :: sh) (.int k a :: xs) (.int k' b :: ys) = match aggEq sh xs ys with
    | some r => if k = k' then some (decide (a = b) && r) else none
    | none => none := rfl
@[go_sem] theorem aggEq_b {sh a b xs ys} : aggEq (.b :: sh) (.bool a :: xs) (.bool b :: ys) = match aggEq sh xs ys with
    | some r => some ((a == b) && r)
    | none => none := rfl
@[go_sem] theorem aggEq_s {sh a b xs ys} : aggEq (.s :: sh) (.str a :: xs) (.str b :: ys) = match aggEq sh xs ys with
    | some r => some ((a.toList == b.toList) && r)
    | none => none := rfl
@[go_sem] theorem layAll_nil {zs} : layAll zs [] [] = some zs := rfl
@[go_sem] theorem layAll_cons {zs off n ps v vs} : layAll zs ((off, n) :: ps) (v :: vs) = if (cellsOf v).length = n ∧ (cellsOf v).all AV.one then match lay zs off (cellsOf v) with
      | some zs => layAll zs ps vs
      | none => none
    else none := rfl
@[go_sem] theorem dataAll_nil {t} : dataAll H t [] = some [] := rfl
@[go_sem] theorem dataAll_cons {t v vs} : dataAll H t (v :: vs) = match toV H t v with
    | some x => match dataAll H t vs with
      | some xs => some (x :: xs)
      | none => none
    | none => none := rfl
@[go_sem] theorem slcR_sl {t xs full lo hi mx} : slcR H S lo hi mx (.sl t xs full) vs = if size t = S then match bounds xs.length lo hi mx vs with
      | some (l, h, m) => .ok (0 ≤ l ∧ l ≤ h ∧ h ≤ m ∧ m ≤ xs.length)
        (.sl t ((xs.take h.toNat).drop l.toNat) (if mx then decide (h = m) else if hi then false else full)) {}
      | none => .no
    else .no := rfl
@[go_sem] theorem slcR_own {k lo0 n lo hi mx} : slcR H S lo hi mx (.own k lo0 n) vs = match hget H k with
    | some (.row t _ _) => if size t = S ∧ mx = false then match bounds n lo hi mx vs with
        | some (l, h, _) => .ok (0 ≤ l ∧ l ≤ h ∧ h ≤ n) (.own k (lo0 + l.toNat) (h.toNat - l.toNat)) {}
        | none => .no
      else .no
    | _ => .no := rfl
@[go_sem] theorem slcsR_str {s lo hi} : slcsR lo hi (.str s) vs = match bounds s.size lo hi false vs with
      | some (l, h, _) => .ok (0 ≤ l ∧ l ≤ h ∧ h ≤ s.size) (.str (s.extract l.toNat h.toNat)) {}
      | none => .no := rfl
@[go_sem] theorem bounds_0 {n : Nat} : bounds n false false false [] = some (0, (n : Int), (n : Int)) := rfl
@[go_sem] theorem bounds_l {n : Nat} {l} : bounds n true false false [.int .i64 l] = some (l, (n : Int), (n : Int)) := rfl
@[go_sem] theorem bounds_h {n : Nat} {h} : bounds n false true false [.int .i64 h] = some (0, h, (n : Int)) := rfl
@[go_sem] theorem bounds_lh {n : Nat} {l h} : bounds n true true false [.int .i64 l, .int .i64 h] = some (l, h, (n : Int)) := rfl
@[go_sem] theorem bounds_hm {n : Nat} {h m} : bounds n false true true [.int .i64 h, .int .i64 m] = some (0, h, m) := rfl
@[go_sem] theorem bounds_lhm {n : Nat} {l h m} : bounds n true true true [.int .i64 l, .int .i64 h, .int .i64 m] = some (l, h, m) := rfl
@[go_sem] theorem appR_sl {b t xs x} : appR d H S b (.sl t xs true) x = if size t = S ∧ (hget H d).isNone then match slOf H t x with
      | some ys => .ok ((xs = [] ∨ ys ≠ []) ∧ xs.length + ys.length ≤ 140737488355328 ∧ (xs.length + ys.length) * b ≤ 140737488355328) (.own d 0 (xs.length + ys.length))
        { put := [(d, .row t (xs ++ ys) false)] }
      | none => .no
    else .no := rfl
@[go_sem] theorem appR_own {b k lo n x} : appR d H S b (.own k lo n) x = match hget H k with
    | some (.row t xs false) => if size t = S ∧ (k = d ∨ (hget H d).isNone) then match slOf H t x with
        | some ys => .ok (n + ys.length ≤ 140737488355328 ∧ (n + ys.length) * b ≤ 140737488355328) (.own d 0 (n + ys.length))
          { frz := [], del := [k], put := [(d, .row t ((xs.drop lo).take n ++ ys) false)] }
        | none => .no
      else .no
    | _ => .no := rfl
@[go_sem] theorem slOf_sl {t xs f} : slOf H t (.sl t xs f) = some xs := by simp [slOf, castL?]
@[go_sem] theorem slOf_own {t k lo n} : slOf H t (.own k lo n) = match hget H k with
    | some (.row t' xs _) => castL? t' t ((xs.drop lo).take n)
    | _ => none := rfl
@[go_sem] theorem tget_nil : tget [] j = none := rfl
@[go_sem] theorem tget_cons {i v e} : tget ((i, v) :: e) j = if i = j then some v else tget e j := rfl
@[go_sem] theorem callF_eq {f} : callF T d f H vs = match tget T f with
  | some fn => match fn.kd with
    | none => match toArgs T H fn.a vs with
      | some x => callR d H vs (fn.pre x) fn.a fn.r (fn.f x)
      | none => .no
    | some ms => callM d fn ms H vs
  | none => .no := rfl
@[go_sem] theorem toArgs_nil : toArgs T H .unit [] = some () := rfl
@[go_sem] theorem toArgs_cons {t b v vs} : toArgs T H (.pair t b) (v :: vs) = match toP T H t v with
    | some x => match toArgs T H b vs with
      | some y => some (x, y)
      | none => none
    | none => none := rfl
@[go_sem] theorem toP_int {k v} : toP T H (.int k) v = toV H (.int k) v := by cases v <;> rfl
@[go_sem] theorem toP_bool {v} : toP T H .bool v = toV H .bool v := by cases v <;> rfl
@[go_sem] theorem toP_str {v} : toP T H .str v = toV H .str v := by cases v <;> rfl
@[go_sem] theorem toP_list {t v} : toP T H (.list t) v = toV H (.list t) v := by cases v <;> rfl
@[go_sem] theorem toP_flist {t v} : toP T H (.flist t) v = toV H (.flist t) v := by cases v <;> rfl
@[go_sem] theorem toP_pair {t b v} : toP T H (.pair t b) v = toV H (.pair t b) v := by cases v <;> rfl
@[go_sem] theorem toP_ref {t v} : toP T H (.ref t) v = toV H (.ref t) v := by cases v <;> rfl
@[go_sem] theorem toP_fn_fv {a r p} : toP T H (.fn a r) (.fv a r p) = some p := by simp [toP, toV, toCells]
@[go_sem] theorem toP_fn_clo {a r f caps} : toP T H (.fn a r) (.clo f caps) = match tget T f with
    | some fn => match dropTy a fn.a with
      | some c => match toArgs0 H c caps with
        | some y => fnAs a r fn c y
        | none => none
      | none => none
    | none => none := rfl
@[go_sem] theorem toV_int {k n} : toV H (.int k) (.int k n) = some n := by simp [toV, toCells]
@[go_sem] theorem toV_bool {b} : toV H .bool (.bool b) = some b := by simp [toV, toCells]
@[go_sem] theorem toV_str {b} : toV H .str (.str b) = some b := by simp [toV, toCells]
@[go_sem] theorem toV_list_sl {t xs f} : toV H (.list t) (.sl t xs f) = some xs := by simp [toV, toCells, slOf, castL?]
@[go_sem] theorem toV_flist_sl {t xs} : toV H (.flist t) (.sl t xs true) = some xs := by simp [toV, toCells, castL?]
@[go_sem] theorem toV_list_own {t k lo n} : toV H (.list t) (.own k lo n) = slOf H t (.own k lo n) := by
  simp only [toV, toCells]; cases slOf H t (.own k lo n) <;> rfl
@[go_sem] theorem toV_pair {a b cs} : toV H (.pair a b) (.agg cs) = match toCells H (.pair a b) cs with
    | some (x, []) => some x
    | _ => none := rfl
@[go_sem] theorem toV_ref_ptr {t k} : toV H (.ref t) (.ptr k 0) = if noRef t then match hget H k with
      | some (.box bs) => match toCells H t bs with
        | some (x, []) => some x
        | _ => none
      | _ => none
    else none := by
  simp only [toV, toCells]
  by_cases h : noRef t = true
  · rw [if_pos h, if_pos h]
    cases hget H k with
    | none => rfl
    | some o => cases o with
      | row t' xs f => rfl
      | mp m => rfl
      | box bs =>
        simp only
        cases toCells H t bs with
        | none => rfl
        | some p => obtain ⟨x, r⟩ := p; cases r <;> rfl
  · rw [if_neg h, if_neg h]
@[go_sem] theorem toV_ref_el {t x} : toV H (.ref t) (.el t x 0) = some x := by simp [toV, toCells, cast?]
@[go_sem] theorem toCells_unit : toCells H .unit cs = some ((), cs) := by cases cs <;> rfl
@[go_sem] theorem toCells_pair {a b cs} : toCells H (.pair a b) cs = match toCells H a cs with
    | some (x, cs1) => match toCells H b cs1 with
      | some (y, cs2) => some (pr x y, cs2)
      | none => none
    | none => none := rfl
@[go_sem] theorem toCells_int {k n cs} : toCells H (.int k) (.int k n :: cs) = some (n, cs) := by simp [toCells]
@[go_sem] theorem toCells_bool {n cs} : toCells H .bool (.bool n :: cs) = some (n, cs) := rfl
@[go_sem] theorem toCells_str {n cs} : toCells H .str (.str n :: cs) = some (n, cs) := rfl
@[go_sem] theorem toCells_list {t c cs} : toCells H (.list t) (c :: cs) = match slOf H t c with
    | some xs => some (xs, cs)
    | none => none := by cases c <;> rfl
@[go_sem] theorem callR_eq {pre a r} {y : den r} : callR d H vs pre a r y = if hasAny H (ofRes d r y).2 || !(flat r || noRef a) then .no else
  .ok pre (ofRes d r y).1 { frz := if flat r then [] else vs.flatMap (keysV H), put := (ofRes d r y).2 } := rfl
@[go_sem] theorem hasAny_nil : hasAny H [] = false := rfl
@[go_sem] theorem hasAny_c {k o ps} : hasAny H ((k, o) :: ps) = ((hget H k).isSome || hasAny H ps) := rfl
@[go_sem] theorem flat_int {k} : flat (.int k) = true := rfl
@[go_sem] theorem flat_bool : flat .bool = true := rfl
@[go_sem] theorem flat_str : flat .str = true := rfl
@[go_sem] theorem flat_unit : flat .unit = true := rfl
@[go_sem] theorem flat_list {t} : flat (.list t) = false := rfl
@[go_sem] theorem flat_olist {t} : flat (.olist t) = false := rfl
@[go_sem] theorem flat_flist {t} : flat (.flist t) = false := rfl
@[go_sem] theorem toCells_flist {t xs cs} : toCells H (.flist t) (.sl t xs true :: cs) = some (xs, cs) := by simp [toCells, castL?]
@[go_sem] theorem flat_pair {a b} : flat (.pair a b) = (flat a && flat b) := rfl
@[go_sem] theorem noRef_int {k} : noRef (.int k) = true := rfl
@[go_sem] theorem noRef_bool : noRef .bool = true := rfl
@[go_sem] theorem noRef_str : noRef .str = true := rfl
@[go_sem] theorem noRef_unit : noRef .unit = true := rfl
@[go_sem] theorem noRef_list {t} : noRef (.list t) = true := rfl
@[go_sem] theorem noRef_olist {t} : noRef (.olist t) = true := rfl
@[go_sem] theorem noRef_flist {t} : noRef (.flist t) = true := rfl
@[go_sem] theorem noRef_fn {a r} : noRef (.fn a r) = true := rfl
@[go_sem] theorem noRef_ref {t} : noRef (.ref t) = false := rfl
@[go_sem] theorem noRef_pair {a b} : noRef (.pair a b) = (noRef a && noRef b) := rfl
@[go_sem] theorem okRes_pair {a b} : okRes (.pair a b) = (plain a && okRes b) := rfl
@[go_sem] theorem okRes_unit : okRes .unit = true := rfl
@[go_sem] theorem plain_int {k} : plain (.int k) = true := rfl
@[go_sem] theorem plain_bool : plain .bool = true := rfl
@[go_sem] theorem plain_str : plain .str = true := rfl
@[go_sem] theorem plain_unit : plain .unit = true := rfl
@[go_sem] theorem plain_list {t} : plain (.list t) = (plain t && decide (0 < size t)) := rfl
@[go_sem] theorem plain_olist {t} : plain (.olist t) = (plain t && decide (0 < size t)) := rfl
@[go_sem] theorem plain_flist {t} : plain (.flist t) = (plain t && decide (0 < size t)) := rfl
@[go_sem] theorem plain_pair {a b} : plain (.pair a b) = (plain a && plain b) := rfl
@[go_sem] theorem size_int {k} : size (.int k) = 1 := rfl
@[go_sem] theorem size_bool : size .bool = 1 := rfl
@[go_sem] theorem size_str : size .str = 1 := rfl
@[go_sem] theorem size_list {t} : size (.list t) = 1 := rfl
@[go_sem] theorem size_flist {t} : size (.flist t) = 1 := rfl
@[go_sem] theorem size_unit : size .unit = 0 := rfl
@[go_sem] theorem size_pair {a b} : size (.pair a b) = size a + size b := rfl
@[go_sem] theorem ofRes_own {t} {y : den (.pair (.olist t) .unit)} : ofRes d (.pair (.olist t) .unit) y = (.own d 0 y.1.length, [(d, .row t y.1 false)]) := rfl
@[go_sem] theorem ofRes_int {k} {y : den (.pair (.int k) .unit)} : ofRes d (.pair (.int k) .unit) y = (.int k y.1, []) := rfl
@[go_sem] theorem ofRes_bool {y : den (.pair .bool .unit)} : ofRes d (.pair .bool .unit) y = (.bool y.1, []) := rfl
@[go_sem] theorem ofRes_str {y : den (.pair .str .unit)} : ofRes d (.pair .str .unit) y = (.str y.1, []) := rfl
@[go_sem] theorem ofRes_list {t} {y : den (.pair (.list t) .unit)} : ofRes d (.pair (.list t) .unit) y = (.sl t y.1 false, []) := rfl
@[go_sem] theorem ofRes_flist {t} {y : den (.pair (.flist t) .unit)} : ofRes d (.pair (.flist t) .unit) y = (.sl t y.1 true, []) := rfl
@[go_sem] theorem ofRes_pair {a b} {y : den (.pair (.pair a b) .unit)} : ofRes d (.pair (.pair a b) .unit) y = (.agg (cellsA a y.1.1 (cellsA b y.1.2 [])), []) := rfl
@[go_sem] theorem ofRes_many {a b c} {y : den (.pair a (.pair b c))} : ofRes d (.pair a (.pair b c)) y = (.tup (ofRes.go (10000 + 100 * d) (.pair a (.pair b c)) y).1, (ofRes.go (10000 + 100 * d) (.pair a (.pair b c)) y).2) := by cases a <;> rfl
@[go_sem] theorem ofRes_unit {y : den .unit} : ofRes d .unit y = (.tup [], []) := rfl
@[go_sem] theorem go_own {t b} {y : den (.pair (.olist t) b)} : ofRes.go j (.pair (.olist t) b) y = (.own j 0 y.1.length :: (ofRes.go (j + 1) b y.2).1, (j, .row t y.1 false) :: (ofRes.go (j + 1) b y.2).2) := rfl
@[go_sem] theorem go_int {k b} {y : den (.pair (.int k) b)} : ofRes.go j (.pair (.int k) b) y = (.int k y.1 :: (ofRes.go (j + 1) b y.2).1, (ofRes.go (j + 1) b y.2).2) := rfl
@[go_sem] theorem go_bool {b} {y : den (.pair .bool b)} : ofRes.go j (.pair .bool b) y = (.bool y.1 :: (ofRes.go (j + 1) b y.2).1, (ofRes.go (j + 1) b y.2).2) := rfl
@[go_sem] theorem go_str {b} {y : den (.pair .str b)} : ofRes.go j (.pair .str b) y = (.str y.1 :: (ofRes.go (j + 1) b y.2).1, (ofRes.go (j + 1) b y.2).2) := rfl
@[go_sem] theorem go_list {t b} {y : den (.pair (.list t) b)} : ofRes.go j (.pair (.list t) b) y = (.sl t y.1 false :: (ofRes.go (j + 1) b y.2).1, (ofRes.go (j + 1) b y.2).2) := rfl
@[go_sem] theorem go_flist {t b} {y : den (.pair (.flist t) b)} : ofRes.go j (.pair (.flist t) b) y = (.sl t y.1 true :: (ofRes.go (j + 1) b y.2).1, (ofRes.go (j + 1) b y.2).2) := rfl
@[go_sem] theorem go_pair {a c b} {y : den (.pair (.pair a c) b)} : ofRes.go j (.pair (.pair a c) b) y = (.agg (cellsA a y.1.1 (cellsA c y.1.2 [])) :: (ofRes.go (j + 1) b y.2).1, (ofRes.go (j + 1) b y.2).2) := rfl
@[go_sem] theorem go_unit {y : den .unit} : ofRes.go j .unit y = ([], []) := rfl
@[go_sem] theorem keysV_own {k a b} : keysV H (.own k a b) = [k] := rfl
@[go_sem] theorem keysV_agg {cs} : keysV H (.agg cs) = keysC cs := rfl
@[go_sem] theorem keysV_ptr {k o} : keysV H (.ptr k o) = match hget H k with
    | some (.box cs) => keysC cs
    | _ => [] := rfl
@[go_sem] theorem keysV_int {k n} : keysV H (.int k n) = [] := rfl
@[go_sem] theorem keysV_bool {b} : keysV H (.bool b) = [] := rfl
@[go_sem] theorem keysV_str {b} : keysV H (.str b) = [] := rfl
@[go_sem] theorem keysV_sl {t xs f} : keysV H (.sl t xs f) = [] := rfl
@[go_sem] theorem keysV_el {t xs f} : keysV H (.el t xs f) = [] := rfl
@[go_sem] theorem keysV_fv {a r p} : keysV H (.fv a r p) = [] := rfl
@[go_sem] theorem keysV_clo {f caps} : keysV H (.clo f caps) = caps.flatMap fun
    | .own k _ _ => [k]
    | .ptr k _ => match hget H k with
      | some (.box cs) => keysC cs
      | _ => []
    | _ => [] := rfl
@[go_sem] theorem keysC_nil : keysC [] = [] := rfl
@[go_sem] theorem keysC_own {k a b cs} : keysC (.own k a b :: cs) = k :: keysC cs := rfl
@[go_sem] theorem keysC_int {k n cs} : keysC (.int k n :: cs) = keysC cs := rfl
@[go_sem] theorem keysC_bool {n cs} : keysC (.bool n :: cs) = keysC cs := rfl
@[go_sem] theorem keysC_str {n cs} : keysC (.str n :: cs) = keysC cs := rfl
@[go_sem] theorem keysC_sl {t xs f cs} : keysC (.sl t xs f :: cs) = keysC cs := rfl
@[go_sem] theorem keysC_ptr {a b cs} : keysC (.ptr a b :: cs) = keysC cs := rfl
@[go_sem] theorem keysC_clo {a b cs} : keysC (.clo a b :: cs) = keysC cs := rfl
@[go_sem] theorem keysC_nilf {cs} : keysC (.nilf :: cs) = keysC cs := rfl
@[go_sem] theorem keysC_undef {cs} : keysC (.undef :: cs) = keysC cs := rfl
@[go_sem] theorem frzH_nil : frzH H [] = H := rfl
@[go_sem] theorem frzH_cons {k ks} : frzH H (k :: ks) = match hget H k with
    | some (.row t xs _) => frzH (hput H k (.row t xs true)) ks
    | _ => frzH H ks := rfl
def pickK (c a b : AV) : AV → AV → AV → R
  | .bool z, .bool x, .bool y => .ok (sure c ∧ (z = true → sure a) ∧ (z = false → sure b)) (.bool (bif z then x else y)) {}
  | _, _, _ => .no
@[go_sem] theorem pickR_eq {c a b} : pickR [c, a, b] = pickK c a b (bare c) (bare a) (bare b) := rfl
@[go_sem] theorem pickK_eq {c a b z x y} : pickK c a b (.bool z) (.bool x) (.bool y) = .ok (sure c ∧ (z = true → sure a) ∧ (z = false → sure b)) (.bool (bif z then x else y)) {} := rfl
@[go_sem] theorem actOf_bool {want b} : actOf want (.bool b) = some (bif want then b else !b) := rfl
@[go_sem] theorem actOf_g {want d b} : actOf want (.g d (.bool b)) = some (d && (bif want then b else !b)) := rfl
@[go_sem] theorem ev_some {dd k xs t want} {σ : St} : ev T ⟨dd, k, xs, some (t, want)⟩ σ = match actOf want (eget σ.env t) with
    | some act => match run1 T (dd.getD 0) σ.heap k (vals σ.env xs) with
      | .ok n v e => match e.quiet with
        | true => .ok (act = true → n) (.g act v) e
        | false => .no
      | _ => .no
    | none => .no := rfl
@[go_sem] theorem quiet_eq {f} : Eff.quiet ⟨f, [], []⟩ = true := rfl
@[go_sem] theorem bind_amb {n p Q} : (R.amb n p).bind Q = (n ∧ ∀ b, p b → Q True (.bool b) {}) := rfl
@[go_sem] theorem bind_no {Q} : R.no.bind Q = False := rfl
@[go_sem] theorem upd_frz {env heap dd v f ps} : St.upd ⟨env, heap⟩ dd v ⟨f, [], ps⟩ = ⟨setE env dd v, putAll (frzH heap f) ps⟩ := rfl
@[go_sem] theorem upd_del {env heap dd v f k ps} : St.upd ⟨env, heap⟩ dd v ⟨f, [k], ps⟩ = ⟨setE (killE k env) dd v, putAll (killH k (hdel (frzH heap f) k)) ps⟩ := rfl
@[go_sem] theorem setE_some {env dd v} : setE env (some dd) v = (dd, v) :: env := rfl
@[go_sem] theorem setE_none {env v} : setE env none v = env := rfl
@[go_sem] theorem putAll_nil : putAll H [] = H := rfl
@[go_sem] theorem putAll_cons {k o ps} : putAll H ((k, o) :: ps) = putAll (hput H k o) ps := rfl
@[go_sem] theorem hdel_nil {k} : hdel [] k = [] := rfl
@[go_sem] theorem hdel_cons {i v e k} : hdel ((i, v) :: e) k = if i = k then hdel e k else (i, v) :: hdel e k := rfl
@[go_sem] theorem killE_nil {k} : killE k [] = [] := rfl
@[go_sem] theorem killE_cons {k i v e} : killE k ((i, v) :: e) = (i, killV k v) :: killE k e := rfl
@[go_sem] theorem killH_nil {k} : killH k [] = [] := rfl
@[go_sem] theorem killH_cons {k i v e} : killH k ((i, v) :: e) = (i, killO k v) :: killH k e := rfl
@[go_sem] theorem killO_b {k cs} : killO k (.box cs) = .box (killL k cs) := rfl
@[go_sem] theorem bare_mp {k : Nat} : bare (.mp k) = .mp k := rfl
@[go_sem] theorem sure_mp {k : Nat} : sure (.mp k) = True := rfl
@[go_sem] theorem killO_mp {k m} : killO k (.mp m) = .mp m := rfl
@[go_sem] theorem killV_mp {k k'} : killV k (.mp k') = if k' = k then .undef else .mp k' := rfl
@[go_sem] theorem nm_mp {k} : nm (.mp k) = [k] := rfl
@[go_sem] theorem nmO_mp {m} : nmO (some (.mp m)) = [] := rfl
@[go_sem] theorem run_mkm : run T d H .mkm [] = if (hget H d).isNone then .ok True (.mp d) { put := [(d, .mp [])] } else .no := rfl
def mgetR (x : Int) : Option Obj → R
  | some (.mp m) => .ok True (.tup [.int .i64 (mpGet m x), .bool (mpHas m x)]) {}
  | _ => .no
def mputR (k : Nat) (x v : Int) : Option Obj → R
  | some (.mp m) => .ok (m.length ≤ 1048576) .undef { put := [(k, .mp (mpPut m x v))] }
  | _ => .no
@[go_sem] theorem run_mget {k x} : run T d H .mget [.mp k, .int .i64 x] = mgetR x (hget H k) := rfl
@[go_sem] theorem run_mput {k x v} : run T d H .mput [.mp k, .int .i64 x, .int .i64 v] = mputR k x v (hget H k) := rfl
@[go_sem] theorem mgetR_mp {m x} : mgetR x (some (.mp m)) = .ok True (.tup [.int .i64 (mpGet m x), .bool (mpHas m x)]) {} := rfl
@[go_sem] theorem mputR_mp {k m x v} : mputR k x v (some (.mp m)) = .ok (m.length ≤ 1048576) .undef { put := [(k, .mp (mpPut m x v))] } := rfl
@[go_sem] theorem killO_r {k t xs f} : killO k (.row t xs f) = .row t xs f := rfl
@[go_sem] theorem killL_nil {k} : killL k [] = [] := rfl
@[go_sem] theorem killL_cons {k v vs} : killL k (v :: vs) = killV k v :: killL k vs := rfl
@[go_sem] theorem killV_nilf {k} : killV k .nilf = .nilf := rfl
@[go_sem] theorem killV_undef {k} : killV k .undef = .undef := rfl
@[go_sem] theorem killV_int {k kk n} : killV k (.int kk n) = .int kk n := rfl
@[go_sem] theorem killV_bool {k n} : killV k (.bool n) = .bool n := rfl
@[go_sem] theorem killV_str {k n} : killV k (.str n) = .str n := rfl
@[go_sem] theorem killV_sl {k t xs f} : killV k (.sl t xs f) = .sl t xs f := rfl
@[go_sem] theorem killV_el {k t xs f} : killV k (.el t xs f) = .el t xs f := rfl
@[go_sem] theorem killV_fv {k a r p} : killV k (.fv a r p) = .fv a r p := rfl
@[go_sem] theorem killV_own {k k' a b} : killV k (.own k' a b) = if k' = k then .undef else .own k' a b := rfl
@[go_sem] theorem killV_ptr {k k' a} : killV k (.ptr k' a) = if k' = k then .undef else .ptr k' a := rfl
@[go_sem] theorem killV_rptr {k k' a b} : killV k (.rptr k' a b) = if k' = k then .undef else .rptr k' a b := rfl
@[go_sem] theorem killV_agg {k cs} : killV k (.agg cs) = .agg (killL k cs) := by simp only [killV]
@[go_sem] theorem killV_tup {k cs} : killV k (.tup cs) = .tup (killL k cs) := by simp only [killV]
@[go_sem] theorem killV_clo {k f cs} : killV k (.clo f cs) = .clo f (killL k cs) := by simp only [killV]
@[go_sem] theorem killV_g {k b v} : killV k (.g b v) = .g b (killV k v) := by simp only [killV]
@[go_sem] theorem cellsOf_fv {a r p} : cellsOf (.fv a r p) = [.fv a r p] := rfl
@[go_sem] theorem cellsOf_el {a r p} : cellsOf (.el a r p) = [.el a r p] := rfl
@[go_sem] theorem one_fv {a r p} : AV.one (.fv a r p) = true := rfl
@[go_sem] theorem one_el {a r p} : AV.one (.el a r p) = true := rfl
@[go_sem] theorem vc_cond {T c a b Q} {σ : St} : vc T (.cond c a b) Q σ = condK T a b Q σ (c.val σ.env) := rfl
@[go_sem] theorem condK_true {T a b Q} {σ : St} : condK T a b Q σ (.bool true) = vc T a Q σ := by simp [condK]
@[go_sem] theorem condK_false {T a b Q} {σ : St} : condK T a b Q σ (.bool false) = vc T b Q σ := by simp [condK]
@[go_sem] theorem condK_bool {T a b Q t} {σ : St} : condK T a b Q σ (.bool t) = ((t = true → vc T a Q σ) ∧ (t = false → vc T b Q σ)) := rfl
@[go_sem] theorem condK_g {T a b Q d t} {σ : St} : condK T a b Q σ (.g d (.bool t)) = (d = true ∧ (t = true → vc T a Q σ) ∧ (t = false → vc T b Q σ)) := rfl
@[go_sem] theorem vc_regd {T ops b Q} {σ : St} : vc T (.regd ops b) Q σ = evTab T b ops σ [] (Q .norm) := rfl
@[go_sem] theorem inBlock_norm {i Q} {σ : St} : inBlock i Q .norm σ = Q .norm σ := rfl
@[go_sem] theorem inBlock_ret {i Q} {σ : St} : inBlock i Q .ret σ = Q .ret σ := rfl
@[go_sem] theorem inBlock_exit {i k Q} {σ : St} : inBlock i Q (.exit k) σ = if k = i then Q .norm σ else Q (.exit k) σ := rfl
@[go_sem] theorem RQ_norm {ros r} {y : den r} {σ : St} : RQ ros r y .norm σ = match readAll σ ros with
    | some vs => resP σ.heap r y vs [] []
    | none => False := rfl
@[go_sem] theorem RQ_ret {ros r} {y : den r} {σ : St} : RQ ros r y .ret σ = match readAll σ ros with
    | some vs => resP σ.heap r y vs [] []
    | none => False := rfl
@[go_sem] theorem readAll_nil {σ : St} : readAll σ [] = some [] := rfl
@[go_sem] theorem readAll_cons {σ : St} {r rs} : readAll σ (r :: rs) = match readO σ r with
    | some v => match readAll σ rs with
      | some vs => some (v :: vs)
      | none => none
    | none => none := rfl
@[go_sem] theorem readO_t {σ : St} {n} : readO σ (.t n) = some (eget σ.env n) := rfl
@[go_sem] theorem readO_c {σ : St} {n sz} : readO σ (.c n sz) = match eget σ.env n with
    | .ptr k 0 => match hget σ.heap k with
      | some (.box cs) => match cut cs 0 sz with
        | some r => some (.agg r)
        | none => none
      | _ => none
    | _ => none := rfl
@[go_sem] theorem resP_unit {y : den .unit} {os fs} : resP H .unit y [] os fs = True := rfl
@[go_sem] theorem resP_olist {t b} {y : den (.pair (.olist t) b)} {v vs os fs} : resP H (.pair (.olist t) b) y (v :: vs) os fs = match ownOf H t v with
    | some (xs, some k) => xs = y.1 ∧ k ∉ os ∧ k ∉ fs ∧ resP H b y.2 vs (k :: os) fs
    | some (xs, none) => xs = y.1 ∧ resP H b y.2 vs os fs
    | none => False := rfl
def resV (H : Heap) (t b : Ty) (y : den t) (z : den b) (v : AV) (vs : List AV) (os fs : List Nat) : Prop := match toV H t v with
    | some x => x = y ∧ noRef t = true ∧ (∀ k ∈ keysV H v, k ∉ os) ∧ resP H b z vs os (keysV H v ++ fs)
    | none => False
@[go_sem] theorem resV_eq {t b} {y : den t} {z : den b} {v vs os fs} : resV H t b y z v vs os fs = match toV H t v with
    | some x => x = y ∧ noRef t = true ∧ (∀ k ∈ keysV H v, k ∉ os) ∧ resP H b z vs os (keysV H v ++ fs)
    | none => False := rfl
@[go_sem] theorem resP_int {k b} {y : den (.pair (.int k) b)} {v vs os fs} : resP H (.pair (.int k) b) y (v :: vs) os fs = resV H (.int k) b y.1 y.2 v vs os fs := rfl
@[go_sem] theorem resP_bool {b} {y : den (.pair .bool b)} {v vs os fs} : resP H (.pair .bool b) y (v :: vs) os fs = resV H .bool b y.1 y.2 v vs os fs := rfl
@[go_sem] theorem resP_str {b} {y : den (.pair .str b)} {v vs os fs} : resP H (.pair .str b) y (v :: vs) os fs = resV H .str b y.1 y.2 v vs os fs := rfl
@[go_sem] theorem resP_list {t b} {y : den (.pair (.list t) b)} {v vs os fs} : resP H (.pair (.list t) b) y (v :: vs) os fs = resV H (.list t) b y.1 y.2 v vs os fs := rfl
@[go_sem] theorem resP_flist {t b} {y : den (.pair (.flist t) b)} {v vs os fs} : resP H (.pair (.flist t) b) y (v :: vs) os fs = resV H (.flist t) b y.1 y.2 v vs os fs := rfl
@[go_sem] theorem resP_pair {a c b} {y : den (.pair (.pair a c) b)} {v vs os fs} : resP H (.pair (.pair a c) b) y (v :: vs) os fs = resV H (.pair a c) b y.1 y.2 v vs os fs := rfl
@[go_sem] theorem ownOf_own {t k n} : ownOf H t (.own k 0 n) = match hget H k with
    | some (.row t' xs false) => match castL? t' t (xs.take n) with
      | some ys => some (ys, some k)
      | none => none
    | _ => none := rfl
def ownNil {α : Type} : List α → Option (List α × Option Nat)
  | [] => some ([], none)
  | _ => none
@[go_sem] theorem ownNil_nil {α : Type} : ownNil ([] : List α) = some ([], none) := rfl
@[go_sem] theorem ownOf_nil {t} {xs : List (den t)} : ownOf H t (.sl t xs true) = ownNil xs := by cases xs <;> simp [ownOf, ownNil]
@[go_sem] theorem initEnv_nil : initEnv j [] = [] := rfl
@[go_sem] theorem initEnv_cons {v vs} : initEnv j (v :: vs) = (j, v) :: initEnv (j + 1) vs := rfl
@[go_sem] theorem ofArgs_unit {x : den .unit} : ofArgs .unit x = [] := rfl
@[go_sem] theorem ofArgs_pair {t b} {x : den (.pair t b)} : ofArgs (.pair t b) x = ofV t x.1 :: ofArgs b x.2 := rfl
@[go_sem] theorem ofV_fn {a r} {p : den (.fn a r)} : ofV (.fn a r) p = .fv a r p := rfl
@[go_sem] theorem ofV_ref {t} {x : den (.ref t)} : ofV (.ref t) x = .el t x 0 := rfl
/-! drawn regions -/
@[go_sem] theorem evTab_nil {b acc K} {σ : St} : evTab T b [] σ acc K = (chk b acc = true ∧ K σ) := rfl
@[go_sem] theorem evTab_cons {b acc K} {σ : St} {o os} : evTab T b (o :: os) σ acc K = tabK T b o os σ acc K (ev T o σ) := rfl
@[go_sem] theorem tabK_ok {b acc K n v e} {σ : St} {o os} : tabK T b o os σ acc K (.ok n v e) = (n ∧ evTab T b os (σ.upd o.d v e) (tsOf σ o v e :: acc) K) := rfl
@[go_sem] theorem tsOf_eq {o v e} {σ : St} : tsOf σ o v e = ⟨o.d, o.tmps, rdOf σ o v e, e.keys ++ kbOf σ.heap e.del, e.frz, ktOf σ.env e.del, e.keys, light o.k⟩ := rfl
@[go_sem] theorem rdOf_eq {o v e} {σ : St} : rdOf σ o v e = nmB o.k σ.heap (vals σ.env o.xs) ++ (nm v ++ (nmPut e.put ++ (nmK σ.heap e.keys ++ nmD σ.env o.d))) := rfl
@[go_sem] theorem nmB_eq {k} : nmB k H vs = nmL vs ++ (bif deep k then nmK H (nmL vs) else []) := rfl
attribute [go_sem] deep light
@[go_sem] theorem nmL_nil : nmL [] = [] := rfl
@[go_sem] theorem nmL_cons {v vs} : nmL (v :: vs) = nm v ++ nmL vs := rfl
@[go_sem] theorem nm_nilf : nm .nilf = [] := rfl
@[go_sem] theorem nm_undef : nm .undef = [] := rfl
@[go_sem] theorem nm_int {k n} : nm (.int k n) = [] := rfl
@[go_sem] theorem nm_bool {n} : nm (.bool n) = [] := rfl
@[go_sem] theorem nm_str {n} : nm (.str n) = [] := rfl
@[go_sem] theorem nm_sl {t xs f} : nm (.sl t xs f) = [] := rfl
@[go_sem] theorem nm_el {t xs f} : nm (.el t xs f) = [] := rfl
@[go_sem] theorem nm_fv {t xs f} : nm (.fv t xs f) = [] := rfl
@[go_sem] theorem nm_own {k a b} : nm (.own k a b) = [k] := rfl
@[go_sem] theorem nm_ptr {k a} : nm (.ptr k a) = [k] := rfl
@[go_sem] theorem nm_rptr {k a b} : nm (.rptr k a b) = [k] := rfl
@[go_sem] theorem nm_agg {cs} : nm (.agg cs) = nmL cs := by simp only [nm]
@[go_sem] theorem nm_tup {cs} : nm (.tup cs) = nmL cs := by simp only [nm]
@[go_sem] theorem nm_clo {f cs} : nm (.clo f cs) = nmL cs := by simp only [nm]
@[go_sem] theorem nm_g {b v} : nm (.g b v) = nm v := by simp only [nm]
@[go_sem] theorem nmK_nil : nmK H [] = [] := rfl
@[go_sem] theorem nmK_cons {k ks} : nmK H (k :: ks) = nmO (hget H k) ++ nmK H ks := rfl
@[go_sem] theorem nmO_none : nmO none = [] := rfl
@[go_sem] theorem nmO_box {cs} : nmO (some (.box cs)) = nmL cs := rfl
@[go_sem] theorem nmO_row {t xs f} : nmO (some (.row t xs f)) = [] := rfl
@[go_sem] theorem nmPut_nil : nmPut [] = [] := rfl
@[go_sem] theorem nmPut_cons {k o ps} : nmPut ((k, o) :: ps) = nmO (some o) ++ nmPut ps := rfl
@[go_sem] theorem nmD_none {E} : nmD E none = [] := rfl
@[go_sem] theorem nmD_some {E n} : nmD E (some n) = nm (eget E n) := rfl
@[go_sem] theorem effkeys_eq {f ds ps} : Eff.keys ⟨f, ds, ps⟩ = ps.map (·.1) ++ ds := rfl
@[go_sem] theorem optmps_none {dd k xs} : AOp.tmps ⟨dd, k, xs, none⟩ = xsTmps xs := rfl
@[go_sem] theorem optmps_some {dd k xs t w} : AOp.tmps ⟨dd, k, xs, some (t, w)⟩ = t :: xsTmps xs := rfl
@[go_sem] theorem xsTmps_nil : xsTmps [] = [] := rfl
@[go_sem] theorem xsTmps_t {n xs} : xsTmps (.t n :: xs) = n :: xsTmps xs := rfl
@[go_sem] theorem xsTmps_c {n xs} : xsTmps (.c n :: xs) = xsTmps xs := rfl
@[go_sem] theorem kbOf_nil : kbOf H [] = [] := rfl
@[go_sem] theorem kbOf_one {k} : kbOf H [k] = kbGo [k] H := rfl
@[go_sem] theorem ktOf_nil {E} : ktOf E [] = [] := rfl
@[go_sem] theorem ktOf_one {E k} : ktOf E [k] = ktGo [k] E := rfl
@[go_sem] theorem kbGo_nil {ks} : kbGo ks [] = [] := rfl
@[go_sem] theorem kbGo_cons {ks i o h} : kbGo ks ((i, o) :: h) = if meets ks (nmO (some o)) then i :: kbGo ks h else kbGo ks h := rfl
@[go_sem] theorem ktGo_nil {ks} : ktGo ks [] = [] := rfl
@[go_sem] theorem ktGo_cons {ks i v h} : ktGo ks ((i, v) :: h) = if meets ks (nm v) then i :: ktGo ks h else ktGo ks h := rfl
@[go_sem] theorem meets_nil {ks} : meets ks [] = false := rfl
@[go_sem] theorem meets_cons {k i is} : meets [k] (i :: is) = (decide (i = k) || meets [k] is) := by simp [meets, Bool.beq_eq_decide_eq]
end
end Go.AM

set_option linter.unusedSimpArgs false
namespace Go.AM
section
variable {T : Tab} {c : C} {Q : Ex → St → Prop} {σ : St} {β : Type}
/-- The loop's head is reached once more, nearer to the end. -/
def Again (st : β → St) (inv : β → Prop) (μ : β → Nat) (n : Nat) (σ' : St) : Prop := ∃ n' σ'', n' < n ∧ Ent σ' σ'' ∧ ∃ b, σ'' = st b ∧ inv b ∧ μ b = n'
theorem Again.intro {st : β → St} {inv : β → Prop} {μ : β → Nat} {n : Nat} {σ' : St} (b : β) (he : Ent σ' (st b)) (hi : inv b) (hm : μ b < n) : Again st inv μ n σ' := ⟨μ b, st b, hm, he, b, rfl, hi, rfl⟩
theorem loop_rule (st : β → St) (inv : β → Prop) (μ : β → Nat) (b0 : β) (h0 : Ent σ (st b0)) (hi : inv b0)
    (hs : ∀ b, inv b → vc T c (andThen Q (Again st inv μ (μ b))) (st b)) : vc T (.loop c) Q σ := by
  refine ⟨fun n σ => ∃ b, σ = st b ∧ inv b ∧ μ b = n, ⟨μ b0, st b0, h0, b0, rfl, hi, rfl⟩, ?_⟩
  rintro n σ ⟨b, rfl, hb, rfl⟩
  exact hs b hb
/-- At a mark in the code: on from a state that names what is needed. -/
theorem cut_at {V : St → Prop} (hV : vc T (.cut c) Q = V) (st : St) (h : vc T c Q st) {σ : St} (h0 : Ent σ st) : V σ := by
  rw [← hV]
  exact ⟨st, h0, h⟩
theorem cut_rule (st : St) (h0 : Ent σ st) (h : vc T c Q st) : vc T (.cut c) Q σ := ⟨st, h0, h⟩
end
section
variable {m : List (Nat × Nat)} {H H' : Heap} {v v' : AV} {vs vs' : List AV}
@[go_sem] theorem mget_nil {j} : mget [] j = none := rfl
@[go_sem] theorem mget_cons {k k0 j} : mget ((k, k0) :: m) j = if k = j then some k0 else mget m j := rfl
def isRow : Option Obj → Prop
  | some (.row _ _ _) => True
  | _ => False
@[go_sem] theorem isRow_row {t xs f} : isRow (some (.row t xs f)) = True := rfl
def frzIs (t : Ty) (xs : List (den t)) (lo n : Nat) : Option Obj → Prop
  | some (.row t0 ys true) => castL? t0 t ((ys.drop lo).take n) = some xs
  | _ => False
@[go_sem] theorem frzIs_row {t xs lo n ys} : frzIs t xs lo n (some (.row t ys true)) = ((ys.drop lo).take n = xs) := by simp [frzIs, castL?_self]
@[go_sem] theorem VM_undef : VM m H H' v .undef = True := by cases v <;> simp only [VM]
@[go_sem] theorem VM_nilf : VM m H H' .nilf .nilf = True := by simp only [VM]
@[go_sem] theorem VM_int {k n k' n'} : VM m H H' (.int k n) (.int k' n') = (k' = k ∧ n' = n) := by simp only [VM]
@[go_sem] theorem VM_bool {n n'} : VM m H H' (.bool n) (.bool n') = (n' = n) := by simp only [VM]
@[go_sem] theorem VM_str {n n'} : VM m H H' (.str n) (.str n') = (n' = n) := by simp only [VM]
@[go_sem] theorem VM_slf {t xs f xs'} : VM m H H' (.sl t xs f) (.sl t xs' false) = (xs' = xs) := by
  cases f <;> simp [VM, castL?_self, eq_comm]
@[go_sem] theorem VM_slt {t xs xs' f'} : VM m H H' (.sl t xs true) (.sl t xs' f') = (xs' = xs) := by
  simp [VM, castL?_self, eq_comm]
@[go_sem] theorem VM_slown {t xs k lo n} : VM m H H' (.sl t xs true) (.own k lo n) = (xs = [] ∧ lo = 0 ∧ n = 0 ∧ mget m k = none ∧ isRow (hget H' k)) := by simp only [VM]; rfl
@[go_sem] theorem VM_ownsl {k0 lo0 n0 t xs f} : VM m H H' (.own k0 lo0 n0) (.sl t xs f) = (f = false ∧ plain t = true ∧ frzIs t xs lo0 n0 (hget H k0)) := by simp only [VM]; rfl
@[go_sem] theorem VM_own {k0 lo0 n0 k lo n} : VM m H H' (.own k0 lo0 n0) (.own k lo n) = (mget m k = some k0 ∧ lo = lo0 ∧ n = n0 ∧ (hget H' k).isSome = true) := by simp only [VM]
@[go_sem] theorem VM_ptr {k0 off0 k off} : VM m H H' (.ptr k0 off0) (.ptr k off) = (mget m k = some k0 ∧ off = off0 ∧ (hget H' k).isSome = true) := by simp only [VM]
@[go_sem] theorem VM_rptr {k0 i0 off0 k i off} : VM m H H' (.rptr k0 i0 off0) (.rptr k i off) = (mget m k = some k0 ∧ i = i0 ∧ off = off0 ∧ (hget H' k).isSome = true) := by simp only [VM]
@[go_sem] theorem VM_el {t x off x' off'} : VM m H H' (.el t x off) (.el t x' off') = (x' = x ∧ off' = off) := by
  simp [VM, cast?_self, eq_comm]
@[go_sem] theorem VM_agg {cs cs'} : VM m H H' (.agg cs) (.agg cs') = VML m H H' cs cs' := by simp only [VM]
@[go_sem] theorem VM_tup {cs cs'} : VM m H H' (.tup cs) (.tup cs') = VML m H H' cs cs' := by simp only [VM]
@[go_sem] theorem VM_clo {f f' cs cs'} : VM m H H' (.clo f cs) (.clo f' cs') = (f' = f ∧ VML m H H' cs cs') := by simp only [VM]
@[go_sem] theorem VM_fv {a r p p'} : VM m H H' (.fv a r p) (.fv a r p') = (p' = p) := by simp [VM]
@[go_sem] theorem VM_g {b b'} : VM m H H' (.g b v) (.g b' v') = (b' = b ∧ VM m H H' v v') := by simp only [VM]
@[go_sem] theorem VML_nil : VML m H H' [] [] = True := by simp only [VML]
@[go_sem] theorem VML_cons : VML m H H' (v :: vs) (v' :: vs') = (VM m H H' v v' ∧ VML m H H' vs vs') := by simp only [VML]
@[go_sem] theorem EntE_nil {E} : EntE m H H' E [] = True := rfl
@[go_sem] theorem EntE_cons {E t e} : EntE m H H' E ((t, v) :: e) = (VM m H H' (eget E t) v ∧ EntE m H H' E e) := rfl
@[go_sem] theorem EntH_nil : EntH m H H' [] = True := rfl
@[go_sem] theorem EntH_cons {k o h} : EntH m H H' ((k, o) :: h) = (OM m H H' k o ∧ EntH m H H' h) := rfl
def omK (H H' : Heap) (m : List (Nat × Nat)) (o : Obj) : Option Obj → Prop
  | some (.box cs) => match o with
    | .box cs' => VML m H H' cs cs'
    | _ => False
  | some (.row t xs f) => match o with
    | .row t' xs' f' => castL? t t' xs = some xs' ∧ f' = f
    | _ => False
  | some (.mp l) => match o with
    | .mp l' => l' = l
    | _ => False
  | none => False
def omN (H H' : Heap) (m : List (Nat × Nat)) (o : Obj) : Option Nat → Prop
  | some k0 => omK H H' m o (hget H k0)
  | none => match o with
    | .row t xs f => xs = [] ∧ f = false ∧ plain t = true ∧ 0 < AM.size t
    | _ => False
@[go_sem] theorem OM_eq {k o} : OM m H H' k o = omN H H' m o (mget m k) := by
  unfold OM omN
  cases mget m k with
  | none => rfl
  | some k0 => 
    simp only [omK]
    cases hget H k0 with
    | none => rfl
    | some o' => cases o' <;> cases o <;> rfl
@[go_sem] theorem omN_none {t xs f} : omN H H' m (.row t xs f) none = (xs = [] ∧ f = false ∧ plain t = true ∧ 0 < AM.size t) := rfl
@[go_sem] theorem omN_some {o k0} : omN H H' m o (some k0) = omK H H' m o (hget H k0) := rfl
@[go_sem] theorem omK_box {cs cs'} : omK H H' m (.box cs') (some (.box cs)) = VML m H H' cs cs' := rfl
@[go_sem] theorem omK_row {t xs f xs' f'} : omK H H' m (.row t xs' f') (some (.row t xs f)) = (xs' = xs ∧ f' = f) := by simp [omK, castL?_self, eq_comm]
@[go_sem] theorem omK_mp {l l'} : omK H H' m (.mp l') (some (.mp l)) = (l' = l) := rfl
@[go_sem] theorem VM_mp {k0 k} : VM m H H' (.mp k0) (.mp k) = (mget m k = some k0 ∧ (hget H' k).isSome = true) := by simp only [VM]
@[go_sem] theorem inj2_nil : inj2 [] = true := rfl
@[go_sem] theorem inj2_cons {k k0} : inj2 ((k, k0) :: m) = (m.all (fun p => p.2 != k0) && inj2 m) := rfl
end
@[go_sem] theorem eget_nil {j} : eget [] j = .undef := rfl
@[go_sem] theorem take_len_set {α : Type} {l : List α} {i : Nat} {x : α} : List.take l.length (l.set i x) = l.set i x := by
  rw [← List.length_set (as := l) (i := i) (a := x), List.take_length]
@[go_sem] theorem imp_keep {p q : Prop} : (p → p ∧ q) = (p → q) := propext ⟨fun h hp => (h hp).2, fun h hp => ⟨hp, h hp⟩⟩
attribute [go_sem] imp_self List.drop_zero List.take_length List.contains_nil List.contains_cons List.length_replicate List.length_append List.length_set Int.toNat_natCast List.take_replicate Nat.min_self Int.toNat_zero List.flatMap_cons List.flatMap_nil List.nil_append List.cons_append List.append_nil List.map_cons List.map_nil List.all_cons List.all_nil Option.isNone_none Option.isNone_some Option.isSome_some Option.isSome_none Option.getD_some Option.getD_none if_true if_false and_true true_and and_self Bool.and_self eq_self List.length_cons List.length_nil Bool.and_true Bool.true_and Nat.add_zero Nat.zero_add List.not_mem_nil not_false_eq_true implies_true false_implies true_implies Bool.or_true Bool.true_or Bool.false_or Bool.or_false Bool.not_true Bool.not_false cond_true cond_false Bool.false_eq_true Bool.false_and Bool.and_false and_false false_and or_false false_or or_true true_or not_true_eq_false
end Go.AM

set_option linter.unusedSimpArgs false
namespace Go.AM
abbrev E := den tEntry
abbrev Node := den tNode
abbrev Msg := den tMsg
abbrev Hrd := den tHard
abbrev eTerm (e : E) : Int := e.1
abbrev eCmd (e : E) : ByteArray := e.2.1
abbrev mkE (t : Int) (c : ByteArray) : E := (t, c, ())
abbrev nId (n : Node) : Int := n.1
abbrev nNodes (n : Node) : Int := n.2.1
abbrev nTerm (n : Node) : Int := n.2.2.1
abbrev nVote (n : Node) : Int := n.2.2.2.1
abbrev nBase (n : Node) : Int := n.2.2.2.2.1
abbrev nBT (n : Node) : Int := n.2.2.2.2.2.1
abbrev nSnap (n : Node) : ByteArray := n.2.2.2.2.2.2.1
abbrev nLog (n : Node) : List E := n.2.2.2.2.2.2.2.1
abbrev nRole (n : Node) : Int := n.2.2.2.2.2.2.2.2.1
abbrev nLead (n : Node) : Int := n.2.2.2.2.2.2.2.2.2.1
abbrev nCommit (n : Node) : Int := n.2.2.2.2.2.2.2.2.2.2.1
abbrev nVotes (n : Node) : List Bool := n.2.2.2.2.2.2.2.2.2.2.2.1
abbrev nNext (n : Node) : List Int := n.2.2.2.2.2.2.2.2.2.2.2.2.1
abbrev nMatch (n : Node) : List Int := n.2.2.2.2.2.2.2.2.2.2.2.2.2.1
abbrev nClock (n : Node) : Int := n.2.2.2.2.2.2.2.2.2.2.2.2.2.2.1
abbrev mkN (id nodes term vote base bt : Int) (snap : ByteArray) (log : List E) (role lead commit : Int) (votes : List Bool) (next mtch : List Int) (clock : Int) : Node :=
  (id, nodes, term, vote, base, bt, snap, log, role, lead, commit, votes, next, mtch, clock, ())
abbrev mKind (m : Msg) : Int := m.1
abbrev mFrom (m : Msg) : Int := m.2.1
abbrev mTo (m : Msg) : Int := m.2.2.1
abbrev mTerm (m : Msg) : Int := m.2.2.2.1
abbrev mIndex (m : Msg) : Int := m.2.2.2.2.1
abbrev mAt (m : Msg) : Int := m.2.2.2.2.2.1
abbrev mYes (m : Msg) : Bool := m.2.2.2.2.2.2.1
abbrev mCommit (m : Msg) : Int := m.2.2.2.2.2.2.2.1
abbrev mEntries (m : Msg) : List E := m.2.2.2.2.2.2.2.2.1
abbrev mSnap (m : Msg) : ByteArray := m.2.2.2.2.2.2.2.2.2.1
abbrev mkM (kind frm to term index at_ : Int) (yes : Bool) (commit : Int) (entries : List E) (snap : ByteArray) : Msg :=
  (kind, frm, to, term, index, at_, yes, commit, entries, snap, ())
abbrev noB : ByteArray := ⟨#[]⟩

@[go_sem] theorem nodeEta (x : den tNode) : (pr (a := tI) (b := (.pair tI (.pair tI (.pair tI (.pair tI (.pair tI (.pair .str (.pair (.list tEntry) (.pair tI (.pair tI (.pair tI (.pair (.list .bool) (.pair (.list tI) (.pair (.list tI) (.pair tI .unit))))))))))))))) x.1 (pr (a := tI) (b := (.pair tI (.pair tI (.pair tI (.pair tI (.pair .str (.pair (.list tEntry) (.pair tI (.pair tI (.pair tI (.pair (.list .bool) (.pair (.list tI) (.pair (.list tI) (.pair tI .unit)))))))))))))) x.2.1 (pr (a := tI) (b := (.pair tI (.pair tI (.pair tI (.pair .str (.pair (.list tEntry) (.pair tI (.pair tI (.pair tI (.pair (.list .bool) (.pair (.list tI) (.pair (.list tI) (.pair tI .unit))))))))))))) x.2.2.1 (pr (a := tI) (b := (.pair tI (.pair tI (.pair .str (.pair (.list tEntry) (.pair tI (.pair tI (.pair tI (.pair (.list .bool) (.pair (.list tI) (.pair (.list tI) (.pair tI .unit)))))))))))) x.2.2.2.1 (pr (a := tI) (b := (.pair tI (.pair .str (.pair (.list tEntry) (.pair tI (.pair tI (.pair tI (.pair (.list .bool) (.pair (.list tI) (.pair (.list tI) (.pair tI .unit))))))))))) x.2.2.2.2.1 (pr (a := tI) (b := (.pair .str (.pair (.list tEntry) (.pair tI (.pair tI (.pair tI (.pair (.list .bool) (.pair (.list tI) (.pair (.list tI) (.pair tI .unit)))))))))) x.2.2.2.2.2.1 (pr (a := .str) (b := (.pair (.list tEntry) (.pair tI (.pair tI (.pair tI (.pair (.list .bool) (.pair (.list tI) (.pair (.list tI) (.pair tI .unit))))))))) x.2.2.2.2.2.2.1 (pr (a := (.list tEntry)) (b := (.pair tI (.pair tI (.pair tI (.pair (.list .bool) (.pair (.list tI) (.pair (.list tI) (.pair tI .unit)))))))) x.2.2.2.2.2.2.2.1 (pr (a := tI) (b := (.pair tI (.pair tI (.pair (.list .bool) (.pair (.list tI) (.pair (.list tI) (.pair tI .unit))))))) x.2.2.2.2.2.2.2.2.1 (pr (a := tI) (b := (.pair tI (.pair (.list .bool) (.pair (.list tI) (.pair (.list tI) (.pair tI .unit)))))) x.2.2.2.2.2.2.2.2.2.1 (pr (a := tI) (b := (.pair (.list .bool) (.pair (.list tI) (.pair (.list tI) (.pair tI .unit))))) x.2.2.2.2.2.2.2.2.2.2.1 (pr (a := (.list .bool)) (b := (.pair (.list tI) (.pair (.list tI) (.pair tI .unit)))) x.2.2.2.2.2.2.2.2.2.2.2.1 (pr (a := (.list tI)) (b := (.pair (.list tI) (.pair tI .unit))) x.2.2.2.2.2.2.2.2.2.2.2.2.1 (pr (a := (.list tI)) (b := (.pair tI .unit)) x.2.2.2.2.2.2.2.2.2.2.2.2.2.1 (pr (a := tI) (b := .unit) x.2.2.2.2.2.2.2.2.2.2.2.2.2.2.1 ()))))))))))))))) = x := rfl
@[go_sem] theorem msgEta (x : den tMsg) : (pr (a := tI) (b := (.pair tI (.pair tI (.pair tI (.pair tI (.pair tI (.pair .bool (.pair tI (.pair (.list tEntry) (.pair .str .unit)))))))))) x.1 (pr (a := tI) (b := (.pair tI (.pair tI (.pair tI (.pair tI (.pair .bool (.pair tI (.pair (.list tEntry) (.pair .str .unit))))))))) x.2.1 (pr (a := tI) (b := (.pair tI (.pair tI (.pair tI (.pair .bool (.pair tI (.pair (.list tEntry) (.pair .str .unit)))))))) x.2.2.1 (pr (a := tI) (b := (.pair tI (.pair tI (.pair .bool (.pair tI (.pair (.list tEntry) (.pair .str .unit))))))) x.2.2.2.1 (pr (a := tI) (b := (.pair tI (.pair .bool (.pair tI (.pair (.list tEntry) (.pair .str .unit)))))) x.2.2.2.2.1 (pr (a := tI) (b := (.pair .bool (.pair tI (.pair (.list tEntry) (.pair .str .unit))))) x.2.2.2.2.2.1 (pr (a := .bool) (b := (.pair tI (.pair (.list tEntry) (.pair .str .unit)))) x.2.2.2.2.2.2.1 (pr (a := tI) (b := (.pair (.list tEntry) (.pair .str .unit))) x.2.2.2.2.2.2.2.1 (pr (a := (.list tEntry)) (b := (.pair .str .unit)) x.2.2.2.2.2.2.2.2.1 (pr (a := .str) (b := .unit) x.2.2.2.2.2.2.2.2.2.1 ())))))))))) = x := rfl
@[go_sem] theorem entEta (x : den tEntry) : (pr (a := tI) (b := (.pair .str .unit)) x.1 (pr (a := .str) (b := .unit) x.2.1 ())) = x := rfl
@[go_sem] theorem hardEta (x : den tHard) : (pr (a := tI) (b := (.pair tI (.pair tI (.pair tI (.pair .str (.pair (.list tEntry) .unit)))))) x.1 (pr (a := tI) (b := (.pair tI (.pair tI (.pair .str (.pair (.list tEntry) .unit))))) x.2.1 (pr (a := tI) (b := (.pair tI (.pair .str (.pair (.list tEntry) .unit)))) x.2.2.1 (pr (a := tI) (b := (.pair .str (.pair (.list tEntry) .unit))) x.2.2.2.1 (pr (a := .str) (b := (.pair (.list tEntry) .unit)) x.2.2.2.2.1 (pr (a := (.list tEntry)) (b := .unit) x.2.2.2.2.2.1 ())))))) = x := rfl
/-! chapter 18 -/
abbrev last (n : Node) : Int := nBase n + (nLog n).length
def termV (n : Node) (i : Int) : Int :=
  if i = nBase n then nBT n else if nBase n ≤ i ∧ i ≤ last n then ((nLog n).getD (i - nBase n - 1).toNat (dflt tEntry)).1 else 0
def termOk (n : Node) (i : Int) : Bool := decide (nBase n ≤ i ∧ i ≤ last n)
def behindN (n : Node) (i : Int) : List E := (nLog n).drop (i - nBase n).toNat
def put' (m : List E) (k : Nat) : List E → List E
  | [] => m
  | e :: l => if (m[k]?.map (·.1)) = some e.1 then put' m (k + 1) l else m.take k ++ e :: l
def setLog (n : Node) (l : List E) : Node := mkN (nId n) (nNodes n) (nTerm n) (nVote n) (nBase n) (nBT n) (nSnap n) l (nRole n) (nLead n) (nCommit n) (nVotes n) (nNext n) (nMatch n) (nClock n)
def put (n : Node) (prev : Int) (l : List E) : Node := if prev < nBase n ∨ last n < prev then n else setLog n (put' (nLog n) (prev - nBase n).toNat l)
def cutN (n : Node) (upto : Int) (snap : ByteArray) : Node :=
  if upto ≤ nBase n ∨ nCommit n < upto ∨ last n < upto then n else mkN (nId n) (nNodes n) (nTerm n) (nVote n) upto (termV n upto) snap (behindN n upto) (nRole n) (nLead n) (nCommit n) (nVotes n) (nNext n) (nMatch n) (nClock n)
def newN (id nodes : Int) : Node :=
  mkN (min (max id 0) (min (max nodes 1) 5 - 1)) (min (max nodes 1) 5) 0 (-1) 0 0 noB [] 0 (-1) 0 (List.replicate (min (max nodes 1) 5).toNat false) (List.replicate (min (max nodes 1) 5).toNat 1) (List.replicate (min (max nodes 1) 5).toNat 0) 0
/-! chapter 19 -/
def most (n : Node) : Int := (nNodes n).tdiv 2 + 1
def votes (n : Node) : List Bool := List.replicate (max 0 (min (nNodes n) 5)).toNat false
def down (n : Node) (t : Int) : Node :=
  if nTerm n < t then mkN (nId n) (nNodes n) t (-1) (nBase n) (nBT n) (nSnap n) (nLog n) 0 (-1) (nCommit n) (votes n) (nNext n) (nMatch n) (nClock n) else n
abbrev lastT (n : Node) : Int := termV n (last n)
def askB (d : Node) (m : Msg) : Bool := decide (mTerm m = nTerm d) && (decide (nVote d = -1) || decide (nVote d = mFrom m)) && (decide (lastT d < mAt m) || decide (mAt m = lastT d) && decide (last d ≤ mIndex m))
def asked1' (d : Node) (m : Msg) : Node := if askB d m = true then mkN (nId d) (nNodes d) (nTerm d) (mFrom m) (nBase d) (nBT d) (nSnap d) (nLog d) (nRole d) (nLead d) (nCommit d) (nVotes d) (nNext d) (nMatch d) 0 else d
def asked2' (d : Node) (m : Msg) : List Msg := [mkM 2 (nId d) (mFrom m) (nTerm d) 0 0 (askB d m) 0 [] noB]
def asked1 (n : Node) (m : Msg) : Node := asked1' (down n (mTerm m)) m
def asked2 (n : Node) (m : Msg) : List Msg := asked2' (down n (mTerm m)) m
def own (n : Node) : Node :=
  if 0 ≤ nId n ∧ nId n < (votes n).length then mkN (nId n) (nNodes n) (nTerm n) (nVote n) (nBase n) (nBT n) (nSnap n) (nLog n) (nRole n) (nLead n) (nCommit n) ((votes n).set (nId n).toNat true) (nNext n) (nMatch n) (nClock n)
  else mkN (nId n) (nNodes n) (nTerm n) (nVote n) (nBase n) (nBT n) (nSnap n) (nLog n) (nRole n) (nLead n) (nCommit n) (votes n) (nNext n) (nMatch n) (nClock n)
theorem last_down (n : Node) (t : Int) : last (down n t) = last n := by unfold down; split <;> rfl
theorem base_down (n : Node) (t : Int) : nBase (down n t) = nBase n := by unfold down; split <;> rfl
theorem tq1 {k c : Int} (hk : 0 ≤ k) : k.tdiv c = k / c := Int.tdiv_eq_ediv_of_nonneg hk
theorem tm1 {k c : Int} (hk : 0 ≤ k) : k.tmod c = k % c := Int.tmod_eq_emod_of_nonneg hk
theorem nn1 {k c : Int} (hk : 0 ≤ k) (hc : 0 ≤ c) : (0 ≤ k / c) = True := eq_true (Int.ediv_nonneg hk hc)
theorem nn2 {k : Int} : (0 ≤ k % 1073741824) = True := eq_true (Int.emod_nonneg k (by decide))
/-- the cells of a zero node, of a zero message -/
def zN : List AV := [.int .i64 0, .int .i64 0, .int .i64 0, .int .i64 0, .int .i64 0, .int .i64 0, .str ⟨#[]⟩, .sl tEntry [] true, .int .i64 0, .int .i64 0, .int .i64 0, .sl .bool [] true, .sl tI [] true, .sl tI [] true, .int .i64 0]
@[go_sem] theorem zN_eq : zN = [.int .i64 0, .int .i64 0, .int .i64 0, .int .i64 0, .int .i64 0, .int .i64 0, .str ⟨#[]⟩, .sl tEntry [] true, .int .i64 0, .int .i64 0, .int .i64 0, .sl .bool [] true, .sl tI [] true, .sl tI [] true, .int .i64 0] := rfl
def zM : List AV := [.int .i64 0, .int .i64 0, .int .i64 0, .int .i64 0, .int .i64 0, .int .i64 0, .bool false, .int .i64 0, .sl tEntry [] true, .str ⟨#[]⟩]
@[go_sem] theorem zM_eq : zM = [.int .i64 0, .int .i64 0, .int .i64 0, .int .i64 0, .int .i64 0, .int .i64 0, .bool false, .int .i64 0, .sl tEntry [] true, .str ⟨#[]⟩] := rfl
end Go.AM
