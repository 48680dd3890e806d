import Derived.Test.YtbcbgfkojmligaaAK
import Derived.Test.YtbcbgfkojmligaaAL
/- Part of an abstract machine for Go code and of its soundness, for any program of the model; no condition. -/
set_option maxHeartbeats 4000000
set_option linter.unusedVariables false
set_option linter.unusedSimpArgs false
set_option linter.unusedSimpArgs false
namespace Go.AM
section
variable {T : Tab} {d j i : Nat} {H : Heap} {vs cs : List AV} {v c : AV} {ms : List Mk}
@[go_sem] theorem callM_eq {fn : Fn} : callM d fn ms H vs = match takeM H fn.a ms vs with
  | some (x, ks, bs, gs) => callMR H (fn.pre x) ks bs gs fn.bk (ofResM (10000 + 100 * d) fn.r (fn.f x)) (cellsO (20000000 + 100 * d) fn.bk (fn.bf x))
  | none => .no := rfl
@[go_sem] theorem takeM_nil : takeM H .unit [] [] = some ((), [], [], []) := rfl
@[go_sem] theorem takeM_no {t b} : takeM H (.pair t b) (.no :: ms) (v :: vs) = if freeA v && (noRef t && plain t) then match toV H t v with
      | some x => match takeM H b ms vs with
        | some (y, ks, bs, gs) => some (pr x y, ks, bs, gs)
        | none => none
      | none => none
    else none := rfl
@[go_sem] theorem takeM_own {t b} : takeM H (.pair t b) (.own :: ms) (v :: vs) = match takeC H t [v] with
    | some (x, ks, []) => match takeM H b ms vs with
      | some (y, ks', bs, gs) => some (pr x y, ks ++ ks', bs, gs)
      | none => none
    | _ => none := rfl
@[go_sem] theorem takeM_box {t b k} : takeM H (.pair (.ref t) b) (.box :: ms) (.ptr k 0 :: vs) = match hget H k with
    | some (.box cs) => match takeC H t cs with
      | some (x, ks, []) => match takeM H b ms vs with
        | some (y, ks', bs, gs) => some (pr (a := .ref t) x y, ks ++ ks', k :: bs, gs)
        | none => none
      | _ => none
    | _ => none := rfl
@[go_sem] theorem takeM_gone {t b k} : takeM H (.pair (.ref t) b) (.gone :: ms) (.ptr k 0 :: vs) = match hget H k with
    | some (.box cs) => match takeC H t cs with
      | some (x, ks, []) => match takeM H b ms vs with
        | some (y, ks', bs, gs) => some (pr (a := .ref t) x y, ks ++ ks', bs, k :: gs)
        | none => none
      | _ => none
    | _ => none := rfl
@[go_sem] theorem takeC_own {t k lo n} : takeC H (.olist t) (.own k lo n :: cs) = match hget H k with
    | some (.row t' xs false) => match castL? t' t ((xs.drop lo).take n) with
      | some ys => some (ys, [k], cs)
      | none => none
    | _ => none := rfl
@[go_sem] theorem takeC_unit : takeC H .unit cs = some ((), [], cs) := by cases cs <;> rfl
@[go_sem] theorem takeC_pair {a b} : takeC H (.pair a b) cs = match takeC H a cs with
    | some (x, ks, cs1) => match takeC H b cs1 with
      | some (y, ks', cs2) => some (pr x y, ks ++ ks', cs2)
      | none => none
    | none => none := by cases cs <;> rfl
@[go_sem] theorem takeC_int {k} : takeC H (.int k) (c :: cs) = if free1 c && (noRef (.int k) && plain (.int k)) then match toCells H (.int k) [c] with
      | some (x, []) => some (x, [], cs)
      | _ => none
    else none := by
  by_cases h : (free1 c && (noRef (.int k) && plain (.int k))) = true
  · rw [if_pos h]; simp only [takeC]; rw [if_pos h]
    cases toCells H (.int k) [c] with
    | none => rfl
    | some p => first | rfl | (obtain ⟨x, r⟩ := p; cases r <;> rfl)
  · rw [if_neg h]; simp only [takeC]; rw [if_neg h]
@[go_sem] theorem takeC_bool  : takeC H .bool (c :: cs) = if free1 c && (noRef .bool && plain .bool) then match toCells H .bool [c] with
      | some (x, []) => some (x, [], cs)
      | _ => none
    else none := by
  by_cases h : (free1 c && (noRef .bool && plain .bool)) = true
  · rw [if_pos h]; simp only [takeC]; rw [if_pos h]
    cases toCells H .bool [c] with
    | none => rfl
    | some p => first | rfl | (obtain ⟨x, r⟩ := p; cases r <;> rfl)
  · rw [if_neg h]; simp only [takeC]; rw [if_neg h]
@[go_sem] theorem takeC_str  : takeC H .str (c :: cs) = if free1 c && (noRef .str && plain .str) then match toCells H .str [c] with
      | some (x, []) => some (x, [], cs)
      | _ => none
    else none := by
  by_cases h : (free1 c && (noRef .str && plain .str)) = true
  · rw [if_pos h]; simp only [takeC]; rw [if_pos h]
    cases toCells H .str [c] with
    | none => rfl
    | some p => first | rfl | (obtain ⟨x, r⟩ := p; cases r <;> rfl)
  · rw [if_neg h]; simp only [takeC]; rw [if_neg h]
@[go_sem] theorem takeC_list {s} : takeC H (.list s) (c :: cs) = if free1 c && (noRef (.list s) && plain (.list s)) then match toCells H (.list s) [c] with
      | some (x, []) => some (x, [], cs)
      | _ => none
    else none := by
  by_cases h : (free1 c && (noRef (.list s) && plain (.list s))) = true
  · rw [if_pos h]; simp only [takeC]; rw [if_pos h]
    cases toCells H (.list s) [c] with
    | none => rfl
    | some p => first | rfl | (obtain ⟨x, r⟩ := p; cases r <;> rfl)
  · rw [if_neg h]; simp only [takeC]; rw [if_neg h]
@[go_sem] theorem takeC_flist {s} : takeC H (.flist s) (c :: cs) = if free1 c && (noRef (.flist s) && plain (.flist s)) then match toCells H (.flist s) [c] with
      | some (x, []) => some (x, [], cs)
      | _ => none
    else none := by
  by_cases h : (free1 c && (noRef (.flist s) && plain (.flist s))) = true
  · rw [if_pos h]; simp only [takeC]; rw [if_pos h]
    cases toCells H (.flist s) [c] with
    | none => rfl
    | some p => first | rfl | (obtain ⟨x, r⟩ := p; cases r <;> rfl)
  · rw [if_neg h]; simp only [takeC]; rw [if_neg h]
@[go_sem] theorem free1_int {k n} : free1 (.int k n) = true := rfl
@[go_sem] theorem freeA_int {k n} : freeA (.int k n) = true := rfl
@[go_sem] theorem free1_bool {b} : free1 (.bool b) = true := rfl
@[go_sem] theorem freeA_bool {b} : freeA (.bool b) = true := rfl
@[go_sem] theorem free1_str {s} : free1 (.str s) = true := rfl
@[go_sem] theorem freeA_str {s} : freeA (.str s) = true := rfl
@[go_sem] theorem free1_sl {t xs f} : free1 (.sl t xs f) = true := rfl
@[go_sem] theorem freeA_sl {t xs f} : freeA (.sl t xs f) = true := rfl
@[go_sem] theorem free1_el {t x o} : free1 (.el t x o) = true := rfl
@[go_sem] theorem freeA_el {t x o} : freeA (.el t x o) = true := rfl
@[go_sem] theorem freeA_agg : freeA (.agg cs) = cs.all free1 := rfl
@[go_sem] theorem okBx_nil {bk} : okBx [] bk = decide (bk = .unit) := rfl
@[go_sem] theorem okBx_one {k bk} : okBx [k] bk = true := rfl
@[go_sem] theorem callMR_eq {pre ks bs gs bk res bc} : callMR H pre ks bs gs bk res bc = if (ks ++ (gs ++ bs)).Nodup ∧ ((res.2 ++ bc.2).map (·.1)).Nodup ∧ hasAny H (res.2 ++ bc.2) = false ∧ okBx bs bk = true then
    .ok pre res.1 { frz := [], del := ks ++ gs, put := (res.2 ++ bc.2) ++ bs.map fun k => (k, .box bc.1) }
  else .no := rfl
@[go_sem] theorem ofResM_one {t} {y : den (.pair t .unit)} : ofResM j (.pair t .unit) y = ofM j t y.1 := rfl
@[go_sem] theorem ofResM_unit {y : den .unit} : ofResM j .unit y = (.tup [], []) := rfl
@[go_sem] theorem ofResM_many {a b c} {y : den (.pair a (.pair b c))} : ofResM j (.pair a (.pair b c)) y = (.tup (goM j (.pair a (.pair b c)) y).1, (goM j (.pair a (.pair b c)) y).2) := rfl
@[go_sem] theorem goM_pair {t b} {y : den (.pair t b)} : goM j (.pair t b) y = ((ofM j t y.1).1 :: (goM (j + (ofM j t y.1).2.length) b y.2).1, (ofM j t y.1).2 ++ (goM (j + (ofM j t y.1).2.length) b y.2).2) := rfl
@[go_sem] theorem goM_unit {y : den .unit} : goM j .unit y = ([], []) := rfl
@[go_sem] theorem ofM_pair {a b} {x : den (.pair a b)} : ofM j (.pair a b) x = (.agg (cellsO j (.pair a b) x).1, (cellsO j (.pair a b) x).2) := rfl
@[go_sem] theorem ofM_olist {t} {x : den (.olist t)} : ofM j (.olist t) x = (.own j 0 (List.length (α := den t) x), [(j, .row t x false)]) := rfl
@[go_sem] theorem cellsO_olist {t} {x : den (.olist t)} : cellsO j (.olist t) x = ([.own j 0 (List.length (α := den t) x)], [(j, .row t x false)]) := rfl
@[go_sem] theorem cellsO_pair {a b} {x : den (.pair a b)} : cellsO j (.pair a b) x = ((cellsO j a x.1).1 ++ (cellsO (j + (cellsO j a x.1).2.length) b x.2).1, (cellsO j a x.1).2 ++ (cellsO (j + (cellsO j a x.1).2.length) b x.2).2) := rfl
@[go_sem] theorem cellsO_unit {x : den .unit} : cellsO j .unit x = ([], []) := rfl
@[go_sem] theorem cellsO_int {k} {x : den (.int k)} : cellsO j (.int k) x = ([.int k x], []) := rfl
@[go_sem] theorem cellsO_bool {x : den .bool} : cellsO j .bool x = ([.bool x], []) := rfl
@[go_sem] theorem cellsO_str {x : den .str} : cellsO j .str x = ([.str x], []) := rfl
@[go_sem] theorem cellsO_list {t} {x : den (.list t)} : cellsO j (.list t) x = ([.sl t x false], []) := rfl
@[go_sem] theorem cellsO_flist {t} {x : den (.flist t)} : cellsO j (.flist t) x = ([.sl t x true], []) := rfl
@[go_sem] theorem ofM_int {k} {x : den (.int k)} : ofM j (.int k) x = (.int k x, []) := rfl
@[go_sem] theorem ofM_bool {x : den .bool} : ofM j .bool x = (.bool x, []) := rfl
@[go_sem] theorem ofM_str {x : den .str} : ofM j .str x = (.str x, []) := rfl
@[go_sem] theorem ofM_list {t} {x : den (.list t)} : ofM j (.list t) x = (.sl t x false, []) := rfl
@[go_sem] theorem argK_eq : argK i = 900000000 + 1000 * i := rfl
@[go_sem] theorem boxKs_nil : boxKs i [] = [] := rfl
@[go_sem] theorem boxKs_box : boxKs i (.box :: ms) = argK i :: boxKs (i + 1) ms := rfl
@[go_sem] theorem boxKs_no : boxKs i (.no :: ms) = boxKs (i + 1) ms := rfl
@[go_sem] theorem boxKs_own : boxKs i (.own :: ms) = boxKs (i + 1) ms := rfl
@[go_sem] theorem boxKs_gone : boxKs i (.gone :: ms) = boxKs (i + 1) ms := rfl
@[go_sem] theorem pins_nil {b} : pins [] b = [] := rfl
@[go_sem] theorem pins_one {k b} : pins [k] b = [(1000000, .pn k b)] := rfl
@[go_sem] theorem inArgs_unit {x : den .unit} : inArgs i .unit [] x = ([], []) := rfl
@[go_sem] theorem inArgs_no {t b} {x : den (.pair t b)} : inArgs i (.pair t b) (.no :: ms) x = (ofV t x.1 :: (inArgs (i + 1) b ms x.2).1, (inArgs (i + 1) b ms x.2).2) := rfl
@[go_sem] theorem inArgs_own {t b} {x : den (.pair (.olist t) b)} : inArgs i (.pair (.olist t) b) (.own :: ms) x = (.own (argK i) 0 x.1.length :: (inArgs (i + 1) b ms x.2).1, (argK i, .row t x.1 false) :: (inArgs (i + 1) b ms x.2).2) := rfl
@[go_sem] theorem inArgs_box {t b} {x : den (.pair (.ref t) b)} : inArgs i (.pair (.ref t) b) (.box :: ms) x = (.ptr (argK i) 0 :: (inArgs (i + 1) b ms x.2).1, ((cellsO (argK i + 1) t x.1).2 ++ [(argK i, .box (cellsO (argK i + 1) t x.1).1)]) ++ (inArgs (i + 1) b ms x.2).2) := rfl
@[go_sem] theorem inArgs_gone {t b} {x : den (.pair (.ref t) b)} : inArgs i (.pair (.ref t) b) (.gone :: ms) x = (.ptr (argK i) 0 :: (inArgs (i + 1) b ms x.2).1, ((cellsO (argK i + 1) t x.1).2 ++ [(argK i, .box (cellsO (argK i + 1) t x.1).1)]) ++ (inArgs (i + 1) b ms x.2).2) := rfl
def endM (fn : Fn) (x : den fn.a) (bx : List Nat) (b : Nat) (σ : St) (vs : List AV) : Prop := match outR σ.heap fn.r vs with
      | some (y, os, fs) => y = fn.f x ∧ match bx with
        | [] => apart os fs
        | _ => match eget σ.env 1000000 with
          | .pn k b' => b' = b ∧ match hget σ.heap k with
            | some (.box cs) => match outC σ.heap fn.bk cs with
              | some (z, os', fs', []) => z = fn.bf x ∧ apart (os ++ os') (fs ++ fs')
              | _ => False
            | _ => False
          | _ => False
      | none => False
@[go_sem] theorem RQM_ret {ros fn x bx b} {σ : St} : RQM ros fn x bx b .ret σ = match readAll σ ros with
    | some vs => endM fn x bx b σ vs
    | none => False := rfl
@[go_sem] theorem RQM_norm {ros fn x bx b} {σ : St} : RQM ros fn x bx b .norm σ = match readAll σ ros with
    | some vs => endM fn x bx b σ vs
    | none => False := rfl
@[go_sem] theorem endM_nil {fn x b} {σ : St} : endM fn x [] b σ vs = match outR σ.heap fn.r vs with
      | some (y, os, fs) => y = fn.f x ∧ apart os fs
      | none => False := rfl
@[go_sem] theorem endM_one {fn x k b} {σ : St} : endM fn x [k] b σ vs = match outR σ.heap fn.r vs with
      | some (y, os, fs) => y = fn.f x ∧ match eget σ.env 1000000 with
          | .pn k b' => b' = b ∧ match hget σ.heap k with
            | some (.box cs) => match outC σ.heap fn.bk cs with
              | some (z, os', fs', []) => z = fn.bf x ∧ apart (os ++ os') (fs ++ fs')
              | _ => False
            | _ => False
          | _ => False
      | none => False := rfl
@[go_sem] theorem outR_unit : outR H .unit [] = some ((), [], []) := rfl
@[go_sem] theorem outR_pair {t b} : outR H (.pair t b) (v :: vs) = match outV H t v with
    | some (x, os, fs) => match outR H b vs with
      | some (y, os', fs') => some (pr x y, os ++ os', fs ++ fs')
      | none => none
    | none => none := rfl
@[go_sem] theorem outV_pair {a b} : outV H (.pair a b) (.agg cs) = match outC H (.pair a b) cs with
    | some (x, os, fs, []) => some (x, os, fs)
    | _ => none := rfl
@[go_sem] theorem outV_olist {t} : outV H (.olist t) v = match outC H (.olist t) [v] with
    | some (x, os, fs, []) => some (x, os, fs)
    | _ => none := rfl
@[go_sem] theorem outC_own {t k lo n} : outC H (.olist t) (.own k lo n :: cs) = match hget H k with
    | some (.row t' xs false) => match castL? t' t ((xs.drop lo).take n) with
      | some ys => some (ys, [k], [], cs)
      | none => none
    | _ => none := rfl
@[go_sem] theorem outC_nil {t} : outC H (.olist t) (.sl t [] true :: cs) = some ([], [], [], cs) := by simp [outC]
@[go_sem] theorem outC_unit : outC H .unit cs = some ((), [], [], cs) := by cases cs <;> rfl
@[go_sem] theorem outC_pair {a b} : outC H (.pair a b) cs = match outC H a cs with
    | some (x, os, fs, cs1) => match outC H b cs1 with
      | some (y, os', fs', cs2) => some (pr x y, os ++ os', fs ++ fs', cs2)
      | none => none
    | none => none := by cases cs <;> rfl
@[go_sem] theorem apart_nil {fs} : apart [] fs = True := by simp [apart]
@[go_sem] theorem apart_cons {k os fs} : apart (k :: os) fs = (k ∉ os ∧ k ∉ fs ∧ apart os fs) := by
  simp only [apart, List.nodup_cons, List.mem_cons, forall_eq_or_imp, eq_iff_iff]
  constructor
  · rintro ⟨⟨h1, h2⟩, h3, h4⟩; exact ⟨h1, h3, h2, h4⟩
  · rintro ⟨h1, h3, h2, h4⟩; exact ⟨⟨h1, h2⟩, h3, h4⟩
@[go_sem] theorem outC_int {k} : outC H (.int k) (c :: cs) = if noRef (.int k) && plain (.int k) then match toCells H (.int k) [c] with
      | some (x, []) => some (x, [], keysC [c], cs)
      | _ => none
    else none := by
  by_cases h : (noRef (.int k) && plain (.int k)) = true
  · rw [if_pos h]; simp only [outC]; rw [if_pos h]
    cases toCells H (.int k) [c] with
    | none => rfl
    | some p => first | rfl | (obtain ⟨x, r⟩ := p; cases r <;> rfl)
  · rw [if_neg h]; simp only [outC]; rw [if_neg h]
@[go_sem] theorem outV_int {k} : outV H (.int k) v = if noRef (.int k) && plain (.int k) then match toV H (.int k) v with
      | some x => some (x, [], keysC (cellsOf v))
      | none => none
    else none := by
  by_cases h : (noRef (.int k) && plain (.int k)) = true
  · rw [if_pos h]; simp only [outV]; rw [if_pos h]
    cases toV H (.int k) v with
    | none => rfl
    | some p => first | rfl | (obtain ⟨x, r⟩ := p; cases r <;> rfl)
  · rw [if_neg h]; simp only [outV]; rw [if_neg h]
@[go_sem] theorem outC_bool  : outC H .bool (c :: cs) = if noRef .bool && plain .bool then match toCells H .bool [c] with
      | some (x, []) => some (x, [], keysC [c], cs)
      | _ => none
    else none := by
  by_cases h : (noRef .bool && plain .bool) = true
  · rw [if_pos h]; simp only [outC]; rw [if_pos h]
    cases toCells H .bool [c] with
    | none => rfl
    | some p => first | rfl | (obtain ⟨x, r⟩ := p; cases r <;> rfl)
  · rw [if_neg h]; simp only [outC]; rw [if_neg h]
@[go_sem] theorem outV_bool  : outV H .bool v = if noRef .bool && plain .bool then match toV H .bool v with
      | some x => some (x, [], keysC (cellsOf v))
      | none => none
    else none := by
  by_cases h : (noRef .bool && plain .bool) = true
  · rw [if_pos h]; simp only [outV]; rw [if_pos h]
    cases toV H .bool v with
    | none => rfl
    | some p => first | rfl | (obtain ⟨x, r⟩ := p; cases r <;> rfl)
  · rw [if_neg h]; simp only [outV]; rw [if_neg h]
@[go_sem] theorem outC_str  : outC H .str (c :: cs) = if noRef .str && plain .str then match toCells H .str [c] with
      | some (x, []) => some (x, [], keysC [c], cs)
      | _ => none
    else none := by
  by_cases h : (noRef .str && plain .str) = true
  · rw [if_pos h]; simp only [outC]; rw [if_pos h]
    cases toCells H .str [c] with
    | none => rfl
    | some p => first | rfl | (obtain ⟨x, r⟩ := p; cases r <;> rfl)
  · rw [if_neg h]; simp only [outC]; rw [if_neg h]
@[go_sem] theorem outV_str  : outV H .str v = if noRef .str && plain .str then match toV H .str v with
      | some x => some (x, [], keysC (cellsOf v))
      | none => none
    else none := by
  by_cases h : (noRef .str && plain .str) = true
  · rw [if_pos h]; simp only [outV]; rw [if_pos h]
    cases toV H .str v with
    | none => rfl
    | some p => first | rfl | (obtain ⟨x, r⟩ := p; cases r <;> rfl)
  · rw [if_neg h]; simp only [outV]; rw [if_neg h]
@[go_sem] theorem outC_list {s} : outC H (.list s) (c :: cs) = if noRef (.list s) && plain (.list s) then match toCells H (.list s) [c] with
      | some (x, []) => some (x, [], keysC [c], cs)
      | _ => none
    else none := by
  by_cases h : (noRef (.list s) && plain (.list s)) = true
  · rw [if_pos h]; simp only [outC]; rw [if_pos h]
    cases toCells H (.list s) [c] with
    | none => rfl
    | some p => first | rfl | (obtain ⟨x, r⟩ := p; cases r <;> rfl)
  · rw [if_neg h]; simp only [outC]; rw [if_neg h]
@[go_sem] theorem outV_list {s} : outV H (.list s) v = if noRef (.list s) && plain (.list s) then match toV H (.list s) v with
      | some x => some (x, [], keysC (cellsOf v))
      | none => none
    else none := by
  by_cases h : (noRef (.list s) && plain (.list s)) = true
  · rw [if_pos h]; simp only [outV]; rw [if_pos h]
    cases toV H (.list s) v with
    | none => rfl
    | some p => first | rfl | (obtain ⟨x, r⟩ := p; cases r <;> rfl)
  · rw [if_neg h]; simp only [outV]; rw [if_neg h]
@[go_sem] theorem outC_flist {s} : outC H (.flist s) (c :: cs) = if noRef (.flist s) && plain (.flist s) then match toCells H (.flist s) [c] with
      | some (x, []) => some (x, [], keysC [c], cs)
      | _ => none
    else none := by
  by_cases h : (noRef (.flist s) && plain (.flist s)) = true
  · rw [if_pos h]; simp only [outC]; rw [if_pos h]
    cases toCells H (.flist s) [c] with
    | none => rfl
    | some p => first | rfl | (obtain ⟨x, r⟩ := p; cases r <;> rfl)
  · rw [if_neg h]; simp only [outC]; rw [if_neg h]
@[go_sem] theorem outV_flist {s} : outV H (.flist s) v = if noRef (.flist s) && plain (.flist s) then match toV H (.flist s) v with
      | some x => some (x, [], keysC (cellsOf v))
      | none => none
    else none := by
  by_cases h : (noRef (.flist s) && plain (.flist s)) = true
  · rw [if_pos h]; simp only [outV]; rw [if_pos h]
    cases toV H (.flist s) v with
    | none => rfl
    | some p => first | rfl | (obtain ⟨x, r⟩ := p; cases r <;> rfl)
  · rw [if_neg h]; simp only [outV]; rw [if_neg h]
@[go_sem] theorem killV_pn {k k' a} : killV k (.pn k' a) = if k' = k then .undef else .pn k' a := rfl
@[go_sem] theorem nm_pn {k a} : nm (.pn k a) = [k] := rfl
end
section
variable {m : List (Nat × Nat)} {H H' : Heap}
@[go_sem] theorem VM_pn {k0 b0 k b} : VM m H H' (.pn k0 b0) (.pn k b) = (mget m k = some k0 ∧ b = b0 ∧ (hget H' k).isSome = true) := by simp only [VM]
end
@[go_sem] theorem upd_dels {env : Env} {heap : Heap} {dd v f k k' ks ps} : St.upd ⟨env, heap⟩ dd v ⟨f, k :: k' :: ks, ps⟩ = St.upd ⟨killE k env, killH k (hdel (frzH heap f) k)⟩ dd v ⟨[], k' :: ks, ps⟩ := rfl
attribute [go_sem] List.nodup_cons List.nodup_nil List.mem_cons List.zip_cons_cons
/-- the contract, for the table -/
theorem HoldsM.x {P : Program} {f : Nat} {fn : Fn} {ms : List Mk} (h : HoldsM P f fn ms) (hk : fn.kd = some ms) : HoldsX P f fn := by
  unfold HoldsX; rw [hk]; exact h
end Go.AM
