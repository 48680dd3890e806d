import Derived.Test.YtbcbgfkojmligaaAVc
/- Part of an abstract machine for Go code and of its soundness, for any program of the model; no condition. -/
set_option linter.unusedVariables false
set_option linter.unusedSimpArgs false
namespace Go.AM
section
variable {T : Tab} {d : Nat} {H : Heap} {v p x y i s : AV} {vs cs caps : List AV} {k : K} {kk : IntKind} {n m a b c : Int} {j l o S N : Nat}
@[go_sem] theorem eget_cons {e : Env} {i j : Nat} {v} : eget ((i, v) :: e) j = if i = j then v else eget e j := rfl
@[go_sem] theorem hget_nil {j : Nat} : hget [] j = none := rfl
@[go_sem] theorem hget_cons {e : Heap} {i j : Nat} {v} : hget ((i, v) :: e) j = if i = j then some v else hget e j := rfl
@[go_sem] theorem hput_nil {k o} : hput [] k o = [(k, o)] := rfl
@[go_sem] theorem hput_cons {e : Heap} {i k : Nat} {v o} : hput ((i, v) :: e) k o = if i = k then (k, o) :: e else (i, v) :: hput e k o := rfl
@[go_sem] theorem cells_int {k n l} : cellsA (.int k) n l = .int k n :: l := rfl
@[go_sem] theorem cells_bool {n l} : cellsA .bool n l = .bool n :: l := rfl
@[go_sem] theorem cells_str {n l} : cellsA .str n l = .str n :: l := rfl
@[go_sem] theorem cells_list {t n l} : cellsA (.list t) n l = .sl t n false :: l := rfl
@[go_sem] theorem cells_unit {n l} : cellsA .unit n l = l := rfl
@[go_sem] theorem cells_pair {a b x l} : cellsA (.pair a b) x l = cellsA a x.1 (cellsA b x.2 l) := rfl
@[go_sem] theorem cells_def {t x} : cells t x = cellsA t x [] := rfl
@[go_sem] theorem ofV_int {k n} : ofV (.int k) n = .int k n := rfl
@[go_sem] theorem ofV_bool {n} : ofV .bool n = .bool n := rfl
@[go_sem] theorem ofV_str {n} : ofV .str n = .str n := rfl
@[go_sem] theorem ofV_list {t n} : ofV (.list t) n = .sl t n false := rfl
@[go_sem] theorem ofV_pair {a b x} : ofV (.pair a b) x = .agg (cellsA a x.1 (cellsA b x.2 [])) := rfl
@[go_sem] theorem cellsOf_agg : cellsOf (.agg cs) = cs := rfl
@[go_sem] theorem cellsOf_int : cellsOf (.int kk n) = [.int kk n] := rfl
@[go_sem] theorem cellsOf_bool {b} : cellsOf (.bool b) = [.bool b] := rfl
@[go_sem] theorem cellsOf_str {b} : cellsOf (.str b) = [.str b] := rfl
@[go_sem] theorem cellsOf_sl {t xs f} : cellsOf (.sl t xs f) = [.sl t xs f] := rfl
@[go_sem] theorem cellsOf_own {a b c} : cellsOf (.own a b c) = [.own a b c] := rfl
@[go_sem] theorem cellsOf_ptr {a b} : cellsOf (.ptr a b) = [.ptr a b] := rfl
@[go_sem] theorem cellsOf_clo {a b} : cellsOf (.clo a b) = [.clo a b] := rfl
@[go_sem] theorem one_int : AV.one (.int kk n) = true := rfl
@[go_sem] theorem one_bool {b} : AV.one (.bool b) = true := rfl
@[go_sem] theorem one_str {b} : AV.one (.str b) = true := rfl
@[go_sem] theorem one_sl {t xs f} : AV.one (.sl t xs f) = true := rfl
@[go_sem] theorem one_own {a b c} : AV.one (.own a b c) = true := rfl
@[go_sem] theorem one_ptr {a b} : AV.one (.ptr a b) = true := rfl
@[go_sem] theorem one_clo {a b} : AV.one (.clo a b) = true := rfl
@[go_sem] theorem vals_nil {e : Env} : vals e [] = [] := rfl
@[go_sem] theorem vals_cons {e : Env} {x xs} : vals e (x :: xs) = x.val e :: vals e xs := rfl
@[go_sem] theorem val_t {e : Env} {n} : Opd.val e (.t n) = eget e n := rfl
@[go_sem] theorem val_c {e : Env} {v} : Opd.val e (.c v) = v := rfl
@[go_sem] theorem bareL_nil : bareL [] = [] := rfl
@[go_sem] theorem bareL_cons : bareL (v :: vs) = bare v :: bareL vs := rfl
@[go_sem] theorem sureL_nil : sureL [] = True := rfl
@[go_sem] theorem sureL_cons : sureL (v :: vs) = (sure v ∧ sureL vs) := rfl
@[go_sem] theorem bare_g {b} : bare (.g b v) = v := rfl
@[go_sem] theorem bare_int : bare (.int kk n) = .int kk n := rfl
@[go_sem] theorem bare_bool {b} : bare (.bool b) = .bool b := rfl
@[go_sem] theorem bare_str {b} : bare (.str b) = .str b := rfl
@[go_sem] theorem bare_sl {t xs f} : bare (.sl t xs f) = .sl t xs f := rfl
@[go_sem] theorem bare_own {a b c} : bare (.own a b c) = .own a b c := rfl
@[go_sem] theorem bare_ptr {a b} : bare (.ptr a b) = .ptr a b := rfl
@[go_sem] theorem bare_rptr {a b c} : bare (.rptr a b c) = .rptr a b c := rfl
@[go_sem] theorem bare_el {t x o} : bare (.el t x o) = .el t x o := rfl
@[go_sem] theorem bare_agg : bare (.agg cs) = .agg cs := rfl
@[go_sem] theorem bare_tup : bare (.tup cs) = .tup cs := rfl
@[go_sem] theorem bare_clo {a b} : bare (.clo a b) = .clo a b := rfl
@[go_sem] theorem bare_fv {a r p} : bare (.fv a r p) = .fv a r p := rfl
@[go_sem] theorem sure_g {b} : sure (.g b v) = (b = true) := rfl
@[go_sem] theorem sure_int : sure (.int kk n) = True := rfl
@[go_sem] theorem sure_bool {b} : sure (.bool b) = True := rfl
@[go_sem] theorem sure_str {b} : sure (.str b) = True := rfl
@[go_sem] theorem sure_sl {t xs f} : sure (.sl t xs f) = True := rfl
@[go_sem] theorem sure_own {a b c} : sure (.own a b c) = True := rfl
@[go_sem] theorem sure_ptr {a b} : sure (.ptr a b) = True := rfl
@[go_sem] theorem sure_rptr {a b c} : sure (.rptr a b c) = True := rfl
@[go_sem] theorem sure_el {t x o} : sure (.el t x o) = True := rfl
@[go_sem] theorem sure_agg : sure (.agg cs) = True := rfl
@[go_sem] theorem sure_tup : sure (.tup cs) = True := rfl
@[go_sem] theorem sure_clo {a b} : sure (.clo a b) = True := rfl
@[go_sem] theorem sure_fv {a r p} : sure (.fv a r p) = True := rfl
@[go_sem] theorem cut_0 {cs} : cut cs 0 0 = some [] := by cases cs <;> rfl
@[go_sem] theorem cut_c0 {c} : cut (c :: cs) 0 (N + 1) = match cut cs 0 N with
    | some r => some (c :: r)
    | none => none := rfl
@[go_sem] theorem cut_cs {c} : cut (c :: cs) (o + 1) N = cut cs o N := by cases N <;> rfl
@[go_sem] theorem lay_nil : lay cs 0 [] = some cs := by cases cs <;> rfl
@[go_sem] theorem lay_c0 {c} : lay (c :: cs) 0 (x :: vs) = match lay cs 0 vs with
    | some r => some (x :: r)
    | none => none := rfl
@[go_sem] theorem lay_cs {c} : lay (c :: cs) (o + 1) vs = match lay cs o vs with
    | some r => some (c :: r)
    | none => none := by cases vs <;> rfl
@[go_sem] theorem ofCells_agg {cs} : R.ofCells true (some cs) = .ok True (.agg cs) {} := rfl
@[go_sem] theorem ofCells_one {c} : R.ofCells false (some [c]) = .ok True c {} := rfl
@[go_sem] theorem loadR_ptr {k off N g} : loadR H N g (.ptr k off) = match hget H k with
    | some (.box cs) => .ofCells g (cut cs off N)
    | _ => .no := rfl
@[go_sem] theorem loadR_rptr {k i off N g} : loadR H N g (.rptr k i off) = match hget H k with
    | some (.row t xs _) => .ofCells g (cut (cells t (xs.getD i (dflt t))) off N)
    | _ => .no := rfl
@[go_sem] theorem loadR_el {t x off N g} : loadR H N g (.el t x off) = .ofCells g (cut (cells t x) off N) := rfl
@[go_sem] theorem storeR_ptr {k off N} : storeR H N (.ptr k off) v = if (cellsOf v).length = N ∧ (cellsOf v).all AV.one then match hget H k with
      | some (.box cs) => match lay cs off (cellsOf v) with
        | some cs => .ok True .undef { put := [(k, .box cs)] }
        | none => .no
      | _ => .no
    else .no := rfl
@[go_sem] theorem storeR_rptr {k i off N} : storeR H N (.rptr k i off) v = if (cellsOf v).length = N ∧ (cellsOf v).all AV.one then match hget H k with
      | some (.row t xs false) => if noRef t then match lay (cells t (xs.getD i (dflt t))) off (cellsOf v) with
        | some cs => match toCells H t cs with
          | some (x, []) => if (keysC (cellsOf v)).contains k then .no else .ok True .undef { frz := keysC (cellsOf v), put := [(k, .row t (xs.set i x) false)] }
          | _ => .no
        | none => .no
        else .no
      | _ => .no
    else .no := rfl
@[go_sem] theorem fldR_ptr {k off} : fldR o (.ptr k off) = .ok True (.ptr k (off + o)) {} := rfl
@[go_sem] theorem fldR_rptr {k i off} : fldR o (.rptr k i off) = .ok True (.rptr k i (off + o)) {} := rfl
@[go_sem] theorem fldR_el {t x off} : fldR o (.el t x off) = .ok True (.el t x (off + o)) {} := rfl
@[go_sem] theorem idxR_sl {t xs f k n} : idxR H S (.sl t xs f) (.int k n) = if size t = S then .ok (0 ≤ n ∧ n < xs.length) (.el t (xs.getD n.toNat (dflt t)) 0) {} else .no := rfl
@[go_sem] theorem idxR_own {k lo len kk n} : idxR H S (.own k lo len) (.int kk n) = match hget H k with
    | some (.row t _ _) => if size t = S then .ok (0 ≤ n ∧ n < len) (.rptr k (lo + n.toNat) 0) {} else .no
    | _ => .no := rfl
@[go_sem] theorem bin_int {op k k' x y} : bin op (.int k x) (.int k' y) = if k = k' then arith op k x y else .no := rfl
@[go_sem] theorem arith_add : arith .add .i64 a b = .ok (InR .i64 (a + b)) (.int .i64 (a + b)) {} := rfl
@[go_sem] theorem arith_sub : arith .sub .i64 a b = .ok (InR .i64 (a - b)) (.int .i64 (a - b)) {} := rfl
@[go_sem] theorem arith_mul : arith .mul .i64 a b = .ok (InR .i64 (a * b)) (.int .i64 (a * b)) {} := rfl
@[go_sem] theorem arith_quo : arith .quo kk a b = .ok (b ≠ 0 ∧ InR kk (a.tdiv b)) (.int kk (a.tdiv b)) {} := rfl
@[go_sem] theorem arith_rem : arith .rem kk a b = .ok (b ≠ 0) (.int kk (a.tmod b)) {} := rfl
@[go_sem] theorem arith_eql : arith .eql kk a b = .ok True (.bool (decide (a = b))) {} := rfl
@[go_sem] theorem arith_neq : arith .neq kk a b = .ok True (.bool (!decide (a = b))) {} := rfl
@[go_sem] theorem arith_lss : arith .lss kk a b = .ok True (.bool (decide (a < b))) {} := rfl
@[go_sem] theorem arith_leq : arith .leq kk a b = .ok True (.bool (decide (a ≤ b))) {} := rfl
@[go_sem] theorem arith_gtr : arith .gtr kk a b = .ok True (.bool (decide (b < a))) {} := rfl
@[go_sem] theorem arith_geq : arith .geq kk a b = .ok True (.bool (decide (b ≤ a))) {} := rfl
@[go_sem] theorem run_mv : run T d H .mv [v] = .ok True v {} := rfl
@[go_sem] theorem run_box : run T d H .box [v] = if (hget H d).isNone ∧ (cellsOf v).all AV.one then .ok True (.ptr d 0) { put := [(d, .box (cellsOf v))] } else .no := rfl
@[go_sem] theorem run_alloc : run T d H (.alloc cs) [] = if (hget H d).isNone then .ok True (.ptr d 0) { put := [(d, .box cs)] } else .no := rfl
@[go_sem] theorem run_load {N g} : run T d H (.load N g) [p] = loadR H N g p := rfl
@[go_sem] theorem run_store {N} : run T d H (.store N) [p, v] = storeR H N p v := rfl
@[go_sem] theorem run_fld : run T d H (.fld o) [p] = fldR o p := rfl
@[go_sem] theorem run_idx : run T d H (.idx S) [x, i] = idxR H S x i := rfl
@[go_sem] theorem run_bin {op} : run T d H (.bin op) [x, y] = bin op x y := rfl
@[go_sem] theorem run_binb_eql {a b} : run T d H (.binb .eql) [.bool a, .bool b] = .ok True (.bool (a == b)) {} := rfl
@[go_sem] theorem run_binb_neq {a b} : run T d H (.binb .neq) [.bool a, .bool b] = .ok True (.bool (!(a == b))) {} := rfl
@[go_sem] theorem run_not {b} : run T d H .not [.bool b] = .ok True (.bool (!b)) {} := rfl
@[go_sem] theorem run_len_sl {t xs f} : run T d H .len [.sl t xs f] = .ok True (.int .i64 xs.length) {} := rfl
@[go_sem] theorem run_len_own {k lo n} : run T d H .len [.own k lo n] = .ok True (.int .i64 n) {} := rfl
@[go_sem] theorem run_call {f} : run T d H (.call f) vs = callF T d f H vs := by cases vs <;> rfl
@[go_sem] theorem run1_pick : run1 T d H .pick vs = pickR vs := rfl
@[go_sem] theorem ev_none {dd k xs} {σ : St} : ev T ⟨dd, k, xs, none⟩ σ = run1 T (dd.getD 0) σ.heap k (vals σ.env xs) := rfl
@[go_sem] theorem evOps_nil {σ : St} {Q} : evOps T [] σ Q = Q σ := rfl
@[go_sem] theorem evOps_cons {op os} {σ : St} {Q} : evOps T (op :: os) σ Q = (ev T op σ).bind fun n v e => n ∧ evOps T os (σ.upd op.d v e) Q := rfl
@[go_sem] theorem bind_ok {n v e Q} : (R.ok n v e).bind Q = Q n v e := rfl
@[go_sem] theorem upd_plain {env heap dd v} : St.upd ⟨env, heap⟩ (some dd) v {} = ⟨(dd, v) :: env, heap⟩ := rfl
@[go_sem] theorem upd_put1 {env heap dd v k o} : St.upd ⟨env, heap⟩ (some dd) v ⟨[], [], [(k, o)]⟩ = ⟨(dd, v) :: env, hput heap k o⟩ := rfl
@[go_sem] theorem upd_put1n {env heap v k o} : St.upd ⟨env, heap⟩ none v ⟨[], [], [(k, o)]⟩ = ⟨env, hput heap k o⟩ := rfl
variable {Q : Ex → St → Prop} {σ : St}
@[go_sem] theorem vc_skip : vc T .skip Q σ = Q .norm σ := rfl
@[go_sem] theorem vc_reg {ops} : vc T (.reg ops) Q σ = evOps T ops σ (Q .norm) := rfl
@[go_sem] theorem vc_seq {a b} : vc T (.seq a b) Q σ = vc T a (andThen Q (vc T b Q)) σ := rfl
@[go_sem] theorem vc_ret : vc T .ret Q σ = Q .ret σ := rfl
@[go_sem] theorem vc_exit {c} : vc T (.exit c) Q σ = Q (.exit c) σ := rfl
@[go_sem] theorem vc_block {i c} : vc T (.block i c) Q σ = vc T c (inBlock i Q) σ := rfl
@[go_sem] theorem then_norm {K} : andThen Q K .norm σ = K σ := rfl
@[go_sem] theorem then_ret {K} : andThen Q K .ret σ = Q .ret σ := rfl
@[go_sem] theorem then_exit {K i} : andThen Q K (.exit i) σ = Q (.exit i) σ := rfl
end
end Go.AM
