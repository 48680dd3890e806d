import Derived.Test.YtbcbgfkojmligaaAF
import Derived.Laws.StructEq
/- Part of an abstract machine for Go code and of its soundness, for any program of the model; no condition. -/
set_option maxHeartbeats 4000000
set_option linter.unusedVariables false
set_option linter.unusedSimpArgs false
set_option linter.unusedSimpArgs false
set_option linter.constructorNameAsVariable false
namespace Go.AM
open Go.RowKit
section
variable {P : Program} {TT : TyTab} {N : Nat} {rowAt : List Nat} {X : Ctx} {σ : St} {a : Act} {w : World} {φ : Nat → Loc} {G M : Nat → Prop} {o : Oper} {next : Act → World → Prop} {Q : Exit → Act → World → Prop}

theorem sound_pick (h : Rel P X σ a w φ G M) {c x y : Operand} (ho : o.op = .pick c x y) {p q r : AV} (hp : RA P φ G M w σ.heap p (a.eval c)) (hq : RA P φ G M w σ.heap q (a.eval x)) (hr' : RA P φ G M w σ.heap r (a.eval y))
    {need : Prop} {v : AV} {e : Eff} (hr : pickR [p, q, r] = .ok need v e) (hn : need) (hk : Cont P X σ e v a o next) : o.wp P a w next Q := by
  simp only [pickR] at hr
  split at hr
  · rename_i b b1 b2 h0 h1 h2
    cases hr
    obtain ⟨hn0, hn1, hn2⟩ := hn
    have hp := bare_sound hn0 hp
    rw [h0] at hp
    simp only [RA] at hp
    refine wp_value h (u := .bool (bif b then b1 else b2)) ?_ (by simp only [RA]) hk
    cases b with
    | true =>
      have := bare_sound (hn1 rfl) hq
      rw [h1] at this
      simp only [RA] at this
      simp [execOp, ho, hp, asBool, this]
    | false =>
      have := bare_sound (hn2 rfl) hr'
      rw [h2] at this
      simp only [RA] at this
      simp [execOp, ho, hp, asBool, this]
  · cases hr

theorem foldI_run (f : Int → Int → Int) (g : Value → Value → Sem Value) (hg : ∀ x y : Int, (g (.int .i64 x) (.int .i64 y)).run P w = .ok (.int .i64 (f x y)) w) {H : Heap} : ∀ {vs : List AV} {us : List Value} {x r : Int}, RAL P φ G M w H vs us → foldI f x vs = some r →
    (us.foldlM g (.int .i64 x) : Sem Value).run P w = .ok (.int .i64 r) w := by
  intro vs
  induction vs with
  | nil => intro us x r h hf; simp only [RAL] at h; subst h; simp only [foldI] at hf; cases hf; rfl
  | cons v vs ih =>
    intro us x r h hf
    simp only [RAL] at h
    obtain ⟨u, us', rfl, hu, h⟩ := h
    cases v with
    | int k y =>
      cases k <;> simp only [foldI] at hf <;> first | cases hf | skip
      simp only [RA] at hu
      subst hu
      rw [List.foldlM_cons]
      simp only [Sem.run_bind, hg, Result.andThen_ok]
      exact ih h hf
    | _ => simp [foldI] at hf

theorem sound_mnmx (h : Rel P X σ a w φ G M) {c : Call} (ho : o.op = .call c) {b : Builtin} (hc : c.callee = .builtin b) {f : Int → Int → Int} (hb : (b = .min ∧ f = min) ∨ (b = .max ∧ f = max)) {vs : List AV} {x r : Int}
    (hv : RAL P φ G M w σ.heap (.int .i64 x :: vs) (c.args.toList.map a.eval)) (hr : foldI f x vs = some r) (hk : Cont P X σ {} (.int .i64 r) a o next) : o.wp P a w next Q := by
  obtain ⟨callee, args, ats⟩ := c
  simp only at hc hv
  subst hc
  simp only [RAL, RA] at hv
  obtain ⟨u, us, he, rfl, hus⟩ := hv
  have hargs : (args.map a.eval).toList = .int .i64 x :: us := by simpa using he
  refine wp_value h (u := .int .i64 r) ?_ (by simp only [RA]) hk
  rcases hb with ⟨rfl, rfl⟩ | ⟨rfl, rfl⟩
  · have := foldI_run (P := P) (w := w) min Builtin.min2 (fun x y => by
      simp only [Builtin.min2, Sem.run_pure]; congr 2; show (if y < x then y else x) = min x y; omega) hus hr
    simp only [execOp, ho, resolve, Sem.run_bind, Sem.run_pure, Result.andThen_ok, invoke, builtin, Builtin.min_, hargs, this]
  · have := foldI_run (P := P) (w := w) max Builtin.max2 (fun x y => by
      simp only [Builtin.max2, Sem.run_pure]; congr 2; show (if y > x then y else x) = max x y; omega) hus hr
    simp only [execOp, ho, resolve, Sem.run_bind, Sem.run_pure, Result.andThen_ok, invoke, builtin, Builtin.max_, hargs, this]

theorem isAgg_run {t : TypeId} (h : (P.underlying t).isSome = true) : (isAgg t).run P w = .ok (isAggB P t) w := by
  unfold isAgg isAggB
  cases hu : P.underlying t with
  | none => simp [hu] at h
  | some d => cases d <;> simp [underlying, hu]

theorem aggInts_get {H : Heap} : ∀ {cs : List AV} {us : List Value} {l : List Int} {i : Nat}, RAL P φ G M w H cs us → aggInts cs = some l → i < l.length → us[i]? = some (.int .i64 (l.getD i 0)) := by
  intro cs
  induction cs with
  | nil => intro us l i _ hl hi; simp only [aggInts] at hl; cases hl; simp at hi
  | cons c cs ih =>
    intro us l i h hl hi
    cases c with
    | int k n =>
      cases k <;> simp only [aggInts] at hl <;> first | cases hl | skip
      split at hl
      · rename_i l' hl'
        cases hl
        simp only [RAL, RA] at h
        obtain ⟨u, us', rfl, rfl, h⟩ := h
        cases i with
        | zero => rfl
        | succ i => simpa using ih h hl' (by simpa using hi)
      · cases hl
    | _ => simp [aggInts] at hl

theorem sound_index (h : Rel P X σ a w φ G M) {t e : TypeId} {n : Nat} {x y : Operand} (ho : o.op = .index t x y) (hu : P.underlying t = some (.array n e)) (hag : isAggB P e = false) (hsome : (P.underlying e).isSome = true) (h1 : P.cellsOf e = 1) {cs : List AV} {k : IntKind} {i : Int}
    (hx : RA P φ G M w σ.heap (.agg cs) (a.eval x)) (hy : RA P φ G M w σ.heap (.int k i) (a.eval y)) {l : List Int} (hl : aggInts cs = some l) (hn : 0 ≤ i ∧ i < n ∧ l.length = n) (hk : Cont P X σ {} (.int .i64 (l.getD i.toNat 0)) a o next) : o.wp P a w next Q := by
  simp only [RA] at hx hy
  obtain ⟨us, hx, hr⟩ := hx
  have hget := aggInts_get hr hl (show i.toNat < l.length by omega)
  refine wp_value h (u := .int .i64 (l.getD i.toNat 0)) ?_ (by simp only [RA]) hk
  have hsz : (Go.sizeOf e).run P w = .ok 1 w := by rw [← h1]; exact size_run (by omega)
  have hg' : us[i.toNat]? = some (.int .i64 (l.getD i.toNat 0)) := by rw [← Array.getElem?_toList]; exact hget
  have hia := isAgg_run (w := w) hsome
  simp only [execOp, ho, Instr.index, hx, hy, asIntOf, Sem.run_bind, Sem.run_pure, Result.andThen_ok, underlying, run_program, hu, hn.1, hn.2.1, and_self, if_true, hsz, Nat.mul_one, part, hia, hag, Bool.false_eq_true, if_false, hg']

theorem sound_field (h : Rel P X σ a w φ G M) {t : TypeId} {x : Operand} {i : Nat} {f : Field} (ho : o.op = .field t x i) (hf : fieldOf P t i = some f) (hsome : (P.underlying f.type).isSome = true) {cs : List AV}
    (hx : RA P φ G M w σ.heap (.agg cs) (a.eval x)) {need : Prop} {v : AV} {e : Eff} (hr : R.ofCells (isAggB P f.type) (cut cs f.offset (if isAggB P f.type then P.cellsOf f.type else 1)) = .ok need v e) (hk : Cont P X σ e v a o next) : o.wp P a w next Q := by
  simp only [RA] at hx
  obtain ⟨us, hx, hral⟩ := hx
  obtain ⟨r, hcut, hv, rfl⟩ := ofCells_ok hr
  obtain ⟨h1, h2⟩ := cut_sound hral hcut
  unfold fieldOf at hf
  split at hf
  · rename_i fs hu
    have hia := isAgg_run (w := w) hsome
    cases hag : isAggB P f.type with
    | true =>
      simp only [hag, if_true] at h1 h2 hv hcut
      simp only [asV] at hv
      cases hv
      have hsz : (Go.sizeOf f.type).run P w = .ok (P.cellsOf f.type) w := by
        cases hq : P.underlying f.type with
        | none => simp [hq] at hsome
        | some dd =>
          obtain ⟨i, hi⟩ := info_of_underlying hq
          exact size_run' (by simp [hi])
      refine wp_value h (u := .agg (us.extract f.offset (f.offset + P.cellsOf f.type))) ?_ (by
        simp only [RA]
        refine ⟨_, rfl, ?_⟩
        have : (us.extract f.offset (f.offset + P.cellsOf f.type)).toList = (us.toList.drop f.offset).take (P.cellsOf f.type) := by
          simp [List.extract_eq_take_drop]
        rw [this]; exact h1) hk
      simp only [execOp, ho, Instr.field, Sem.run_bind, underlying, run_program, Result.andThen_ok, hu, Sem.run_pure, hf, hx, asAgg, part, hia, hag, if_true, hsz]
    | false =>
      simp only [hag, Bool.false_eq_true, if_false] at h1 h2 hv hcut
      cases r with
      | nil => simp [asV] at hv
      | cons c r => cases r with
        | cons c' r => simp [asV] at hv
        | nil =>
          simp only [asV] at hv
          cases hv
          simp only [RAL] at h1
          obtain ⟨u, us', he, hu2, rfl⟩ := h1
          have hg : us[f.offset]? = some u := by
            rw [← Array.getElem?_toList]
            have := congrArg (·[0]?) he
            simpa [List.getElem?_take, List.getElem?_drop] using this
          refine wp_value h (u := u) ?_ hu2 hk
          simp only [execOp, ho, Instr.field, Sem.run_bind, underlying, run_program, Result.andThen_ok, hu, Sem.run_pure, hf, hx, asAgg, part, hia, hag, Bool.false_eq_true, if_false, hg]
  · cases hf

/-! ### == of structs, of arrays -/
theorem aggEq_cons {s : Sc} {sh : List Sc} {xs ys : List AV} {r : Bool} (h : aggEq (s :: sh) xs ys = some r) {H : Heap} {us vs : List Value} (hx : RAL P φ G M w H xs us) (hy : RAL P φ G M w H ys vs) :
    ∃ u us' v vs' xs' ys' b r', us = u :: us' ∧ vs = v :: vs' ∧ RAL P φ G M w H xs' us' ∧ RAL P φ G M w H ys' vs' ∧ aggEq sh xs' ys' = some r' ∧ r = (b && r') ∧ u.oneCell' = true ∧ v.oneCell' = true ∧
      ∀ d t, scOf P t = some s → (Op.equalIn (d + 1) t u v).run P w = .ok b w ∧ isAggB P t = false ∧ (P.underlying t).isSome = true := by
  have ag : ∀ t, scOf P t = some s → isAggB P t = false ∧ (P.underlying t).isSome = true := by
    intro t ht
    unfold scOf at ht
    unfold isAggB
    split at ht <;> simp_all
  unfold aggEq at h
  split at h
  · cases ‹_ :: _ = []›
  · rename_i sh' k a xs' k' b ys' he
    cases he
    split at h
    · rename_i r' hr
      split at h
      · rename_i e
        subst e
        cases h
        simp only [RAL, RA] at hx hy
        obtain ⟨u, us', rfl, rfl, hx⟩ := hx
        obtain ⟨v, vs', rfl, rfl, hy⟩ := hy
        refine ⟨_, _, _, _, _, _, _, _, rfl, rfl, hx, hy, hr, rfl, rfl, rfl, fun d t ht => ⟨?_, ag t ht⟩⟩
        unfold scOf at ht
        split at ht
        · rename_i hu; rw [run_equalIn_int w d t k _ a b hu]; rfl
        · cases ht
        · cases ht
        · cases ht
      · cases h
    · cases h
  · rename_i sh' a xs' b ys' he
    cases he
    split at h
    · rename_i r' hr
      cases h
      simp only [RAL, RA] at hx hy
      obtain ⟨u, us', rfl, rfl, hx⟩ := hx
      obtain ⟨v, vs', rfl, rfl, hy⟩ := hy
      refine ⟨_, _, _, _, _, _, _, _, rfl, rfl, hx, hy, hr, rfl, rfl, rfl, fun d t ht => ⟨?_, ag t ht⟩⟩
      unfold scOf at ht
      split at ht
      · cases ht
      · rename_i hu; rw [run_equalIn_bool' w d t a b hu]
      · cases ht
      · cases ht
    · cases h
  · rename_i sh' a xs' b ys' he
    cases he
    split at h
    · rename_i r' hr
      cases h
      simp only [RAL, RA] at hx hy
      obtain ⟨u, us', rfl, rfl, hx⟩ := hx
      obtain ⟨v, vs', rfl, rfl, hy⟩ := hy
      refine ⟨_, _, _, _, _, _, _, _, rfl, rfl, hx, hy, hr, rfl, rfl, rfl, fun d t ht => ⟨?_, ag t ht⟩⟩
      unfold scOf at ht
      split at ht
      · cases ht
      · cases ht
      · rename_i hu; rw [run_equalIn_string w d t a b hu]
      · cases ht
    · cases h
  · cases h

theorem part_run {t : TypeId} {cs : Array Value} {off : Nat} {u : Value} (h1 : isAggB P t = false) (h2 : (P.underlying t).isSome = true) (hu : cs[off]? = some u) : (part t cs off).run P w = .ok u w := by
  simp only [part, Sem.run_bind, isAgg_run h2, Result.andThen_ok, h1, Bool.false_eq_true, if_false, hu, Sem.run_pure]

theorem fields_eq (d : Nat) {xs ys : Array Value} {H : Heap} : ∀ {fs : List Field} {off : Nat} {sh : List Sc} {as bs : List AV} {r : Bool}, flds P fs off = some sh → aggEq sh as bs = some r → RAL P φ G M w H as (xs.toList.drop off) → RAL P φ G M w H bs (ys.toList.drop off) →
    (Op.eqFields (d + 1) xs ys fs).run P w = .ok r w := by
  intro fs
  induction fs with
  | nil =>
    intro off sh as bs r hf hr _ _
    simp only [flds] at hf
    cases hf
    unfold aggEq at hr
    split at hr
    · cases hr; rfl
    · cases ‹[] = _›
    · cases ‹[] = _›
    · cases ‹[] = _›
    · cases hr
  | cons f fs ih =>
    intro off sh as bs r hf hr hx hy
    simp only [flds] at hf
    split at hf
    · rename_i s rest hs hrest
      split at hf
      · rename_i hc
        cases hf
        obtain ⟨u, us', v, vs', xs', ys', b, r', e1, e2, hx', hy', hr', rfl, _, _, heq⟩ := aggEq_cons hr hx hy
        obtain ⟨hq, ha, hsm⟩ := heq d f.type hs
        have g1 : xs[f.offset]? = some u := by
          rw [hc.1, ← Array.getElem?_toList]; have := congrArg (·[0]?) e1; simpa [List.getElem?_drop] using this
        have g2 : ys[f.offset]? = some v := by
          rw [hc.1, ← Array.getElem?_toList]; have := congrArg (·[0]?) e2; simpa [List.getElem?_drop] using this
        have d1 : xs.toList.drop (off + 1) = us' := by have := congrArg List.tail e1; simpa using this
        have d2 : ys.toList.drop (off + 1) = vs' := by have := congrArg List.tail e2; simpa using this
        simp only [Op.eqFields, hc.2, ne_eq, not_false_eq_true, if_true, Sem.run_bind, part_run ha hsm g1, part_run ha hsm g2, Result.andThen_ok, hq]
        cases b with
        | false => simp
        | true =>
          simp only [Bool.not_true, Bool.false_eq_true, if_false, Bool.true_and]
          exact ih hrest hr' (by rw [d1]; exact hx') (by rw [d2]; exact hy')
      · cases hf
    · cases hf

def eqElems (d : Nat) (e : TypeId) (xs ys : Array Value) (S : Nat) : List Nat → Sem Bool
  | [] => pure true
  | i :: is => do
    let a ← part e xs (i * S)
    let b ← part e ys (i * S)
    let r ← Op.equalIn d e a b
    if (!r) = true then pure false else eqElems d e xs ys S is

theorem run_equalIn_array (d : Nat) {t e : TypeId} {n S : Nat} (xs ys : Array Value) (ht : P.underlying t = some (.array n e)) (w : World) (hs : (Go.sizeOf e).run P w = .ok S w) :
    (Op.equalIn (d + 1) t (.agg xs) (.agg ys)).run P w = (eqElems d e xs ys S (List.range' 0 n)).run P w := by
  simp only [Op.equalIn, Sem.run_bind, run_underlying ht, Result.andThen_ok, hs]
  rw [Std.Legacy.Range.forIn_eq_forIn_range']
  simp only [Std.Legacy.Range.size, Nat.sub_zero, Nat.add_sub_cancel, Nat.div_one]
  generalize List.range' 0 n = fs
  clear ht hs
  revert w
  induction fs with
  | nil => intro w; simp [eqElems]
  | cons f fs ih =>
    intro w
    simp only [List.forIn_cons, eqElems, Sem.run_bind, Sem.run_ite]
    generalize (part e xs (f * S)).run P w = r1
    cases r1 with
    | ok a w1 =>
      simp only [Result.andThen_ok]
      generalize (part e ys (f * S)).run P w1 = r2
      cases r2 with
      | ok b w2 =>
        simp only [Result.andThen_ok]
        generalize (Op.equalIn d e a b).run P w2 = r3
        cases r3 with
        | ok r w3 =>
          cases r
          · simp only [Result.andThen_ok, Bool.not_false, if_true, Sem.run_pure]
          · simp only [Result.andThen_ok, Bool.not_true, Bool.false_eq_true, if_false, Sem.run_pure]
            exact ih w3
        | halt x w3 => simp [Result.andThen]
      | halt x w2 => simp [Result.andThen]
    | halt x w1 => simp [Result.andThen]

theorem array_eq (d : Nat) {e : TypeId} {xs ys : Array Value} {H : Heap} {k : Sc} (hs : scOf P e = some k) : ∀ {n off : Nat} {as bs : List AV} {r : Bool}, aggEq (List.replicate n k) as bs = some r → RAL P φ G M w H as (xs.toList.drop off) → RAL P φ G M w H bs (ys.toList.drop off) →
    (eqElems (d + 1) e xs ys 1 (List.range' off n)).run P w = .ok r w := by
  intro n
  induction n with
  | zero =>
    intro off as bs r hr _ _
    simp only [List.replicate_zero] at hr
    unfold aggEq at hr
    split at hr
    · cases hr; rfl
    · cases ‹[] = _›
    · cases ‹[] = _›
    · cases ‹[] = _›
    · cases hr
  | succ n ih =>
    intro off as bs r hr hx hy
    rw [List.replicate_succ] at hr
    obtain ⟨u, us', v, vs', xs', ys', b, r', e1, e2, hx', hy', hr', rfl, _, _, heq⟩ := aggEq_cons hr hx hy
    obtain ⟨hq, ha, hsm⟩ := heq d e hs
    have g1 : xs[off]? = some u := by
      rw [← Array.getElem?_toList]; have := congrArg (·[0]?) e1; simpa [List.getElem?_drop] using this
    have g2 : ys[off]? = some v := by
      rw [← Array.getElem?_toList]; have := congrArg (·[0]?) e2; simpa [List.getElem?_drop] using this
    have d1 : xs.toList.drop (off + 1) = us' := by have := congrArg List.tail e1; simpa using this
    have d2 : ys.toList.drop (off + 1) = vs' := by have := congrArg List.tail e2; simpa using this
    rw [List.range'_succ]
    simp only [eqElems, Nat.mul_one, Sem.run_bind, part_run ha hsm g1, part_run ha hsm g2, Result.andThen_ok, hq]
    cases b with
    | false => simp
    | true =>
      simp only [Bool.not_true, Bool.false_eq_true, if_false, Bool.true_and]
      exact ih hr' (by rw [d1]; exact hx') (by rw [d2]; exact hy')

theorem shape_eq {t : TypeId} {sh : List Sc} (hsh : shapeOf P t = some sh) {H : Heap} {as bs : List AV} {xs ys : Array Value} {r : Bool} (hx : RAL P φ G M w H as xs.toList) (hy : RAL P φ G M w H bs ys.toList) (hr : aggEq sh as bs = some r) :
    P.eqGuardType P.depth t = false ∧ (Op.equal t (.agg xs) (.agg ys)).run P w = .ok r w := by
  have hm : ∃ m, Op.maxDepth = m + 1 + 1 := ⟨9998, rfl⟩
  obtain ⟨m, hm⟩ := hm
  unfold shapeOf at hsh
  split at hsh
  · rename_i n e hu
    split at hsh
    · rename_i hc
      refine ⟨hc.2, ?_⟩
      cases hk : scOf P e with
      | none => simp [hk] at hsh
      | some k =>
        simp only [hk, Option.map_some, Option.some.injEq] at hsh
        subst hsh
        have hsz : (Go.sizeOf e).run P w = .ok 1 w := by rw [← hc.1]; exact size_run (by omega)
        unfold Op.equal
        rw [hm, run_equalIn_array (m + 1) xs ys hu w hsz]
        exact array_eq m hk (off := 0) hr (by simpa using hx) (by simpa using hy)
    · cases hsh
  · rename_i fs hu
    split at hsh
    · rename_i hc
      refine ⟨hc.2, ?_⟩
      unfold Op.equal
      have hfo : P.fieldsOf t = fs := by unfold Program.fieldsOf; rw [hu]
      rw [hm, run_equalIn_struct w (m + 1) t xs ys (by rw [hfo]; exact hu) hc.1, hfo]
      exact fields_eq m hsh hr (by simpa using hx) (by simpa using hy)
    · cases hsh
  · cases hsh

theorem sound_bina (h : Rel P X σ a w φ G M) {t t' : TypeId} {op : BinOp} {x y : Operand} (ho : o.op = .binOp op t x y t') {sh : List Sc} (hsh : shapeOf P t = some sh) {p q : List AV} (hp : RA P φ G M w σ.heap (.agg p) (a.eval x)) (hq : RA P φ G M w σ.heap (.agg q) (a.eval y))
    {r r' : Bool} (hr : aggEq sh p q = some r) (hop : (op = .eql ∧ r' = r) ∨ (op = .neq ∧ r' = !r)) (hk : Cont P X σ {} (.bool r') a o next) : o.wp P a w next Q := by
  simp only [RA] at hp hq
  obtain ⟨us, hx, hu⟩ := hp
  obtain ⟨vs, hy, hv⟩ := hq
  obtain ⟨hg, he⟩ := shape_eq hsh hu hv hr
  have hgr := run_eqGuard_agg (P := P) w op t x y us vs hg
  refine wp_value h (u := .bool r') ?_ (by simp only [RA]) hk
  rcases hop with ⟨rfl, rfl⟩ | ⟨rfl, rfl⟩ <;>
  · simp only [execOp, ho, hx, hy, Sem.run_bind, hgr, Result.andThen_ok]
    simp [binOp, he]

/-! ### a store into an element -/
theorem keys1_cells {t : Ty} : ∀ {x : den t} {l : List AV}, ∀ k ∈ keysC (cellsA t x l), k ∈ keysC l := by
  induction t with
  | pair a b iha ihb => intro x l k hk; exact ihb k (iha k hk)
  | unit => intro x l k hk; exact hk
  | _ => intro x l k hk; simpa [cellsA, keysC, keys1] using hk

theorem keys_lay : ∀ {cs vs r : List AV} {off : Nat}, lay cs off vs = some r → ∀ k ∈ keysC r, k ∈ keysC cs ∨ k ∈ keysC vs := by
  intro cs
  induction cs with
  | nil =>
    intro vs r off h k hk
    cases off with
    | zero => cases vs with
      | nil => simp only [lay] at h; cases h; exact .inl hk
      | cons v vs => simp [lay] at h
    | succ off => simp [lay] at h
  | cons c cs ih =>
    intro vs r off h k hk
    cases off with
    | zero => cases vs with
      | nil => simp only [lay] at h; cases h; exact .inl hk
      | cons v vs =>
        simp only [lay] at h
        split at h
        · rename_i r' hr
          cases h
          rw [keysC_cons] at hk ⊢
          rw [keysC_cons]
          rcases List.mem_append.1 hk with hk | hk
          · exact .inr (List.mem_append_left _ hk)
          · exact (ih hr k hk).imp (List.mem_append_right _) (List.mem_append_right _)
        · cases h
    | succ off =>
      simp only [lay] at h
      split at h
      · rename_i r' hr
        cases h
        rw [keysC_cons] at hk ⊢
        rcases List.mem_append.1 hk with hk | hk
        · exact .inl (List.mem_append_left _ hk)
        · exact (ih hr k hk).imp (List.mem_append_right _) id
      · cases h

theorem frzH_other : ∀ {ks : List Nat} {H : Heap} {k : Nat}, k ∉ ks → hget (frzH H ks) k = hget H k := by
  intro ks
  induction ks with
  | nil => intro H k _; rfl
  | cons j js ih =>
    intro H k hk
    simp only [List.mem_cons, not_or] at hk
    simp only [frzH]
    split
    · rw [ih hk.2, hget_hput_ne _ _ _ _ hk.1]
    · exact ih hk.2

theorem sound_store_row (h : Rel P X σ a w φ G M) {t : TypeId} {x y : Operand} (ho : o.op = .store t x y) (h0 : 0 < P.cellsOf t) {k i off : Nat} {v : AV} {s : Ty} {xs : List (den s)} {cs' : List AV} {x' : den s} {oy : Opd} {t2 : TypeId} (hcy : compOpd P TT N t2 y = some oy)
    (hx : RA P φ G M w σ.heap (.rptr k i off) (a.eval x)) (hyv : bare (oy.val σ.env) = v) (hys : sure (oy.val σ.env)) (hn : (cellsOf v).length = P.cellsOf t) (hone : (cellsOf v).all AV.one = true) (hnr : noRef s = true)
    (hkk : hget σ.heap k = some (.row s xs false)) (hl : lay (cells s (xs.getD i (dflt s))) off (cellsOf v) = some cs') (hc : toCells σ.heap s cs' = some (x', [])) (hnk : (keysC (cellsOf v)).contains k = false)
    (hk : Cont P X σ { frz := keysC (cellsOf v), put := [(k, .row s (xs.set i x') false)] } .undef a o next) : o.wp P a w next Q := by
  subst hyv
  generalize hv0 : bare (oy.val σ.env) = v at *
  obtain ⟨G1, M1, hg1, hR⟩ := h.frz (keysC (cellsOf v))
  have hkn : k ∉ keysC (cellsOf v) := by intro hm; simp [hm] at hnk
  have hkk1 : hget (frzH σ.heap (keysC (cellsOf v))) k = some (.row s xs false) := by rw [frzH_other hkn]; exact hkk
  have hy : RA P φ G1 M1 w (frzH σ.heap (keysC (cellsOf v))) v (a.eval y) := by
    have := opd_sound (σ := ⟨σ.env, frzH σ.heap (keysC (cellsOf v))⟩) hR hcy
    have hb := bare_sound hys this
    rw [hv0] at hb
    exact hb
  simp only [RA, hkk] at hx
  obtain ⟨hi, hxv⟩ := hx
  have hob := hR.heap.obj k _ hkk1
  simp only [RObj] at hob
  obtain ⟨⟨hpl, hz, hrow⟩, hgm⟩ := hob
  rcases hrow with ⟨_, rfl⟩ | ⟨c, e, hc0, hc63, hblk, hfit, hle, hcells⟩
  · simp at hi
  · obtain ⟨h1, h2⟩ := one_cells hy hone
    have hd : xs.getD i (dflt s) = xs[i] := by simp [List.getD, List.getElem?_eq_getElem hi]
    have hcell := hcells i hi
    rw [hd] at hl
    obtain ⟨h3, h4, h5⟩ := lay_sound (RT.cells' (φ := φ) (M := M1) (H := frzH σ.heap (keysC (cellsOf v))) hpl hcell) h1 hl
    have hfl := hcell.len
    rw [hfl] at h4
    have hsub : ∀ k' ∈ keysC cs', k' ∈ keysC (cellsOf v) := fun k' hk' => by
      rcases keys_lay hl k' hk' with hq | hq
      · have := keys1_cells (t := s) (x := xs[i]) (l := []) k' hq
        simp [keysC] at this
      · exact hq
    obtain ⟨us1, us2, e2, hrt, h6, _⟩ := toCells_sound (G1 := G1) hR.heap (fun _ h => h) (.inr ⟨hnr, (frzH_frozen _ _).sub hsub⟩) h3 (by rw [toCells_same (HS.frz _ _)]; exact hc)
    simp only [RAL] at h6
    subst h6
    rw [List.append_nil] at e2
    rw [← e2] at hrt
    have hmul : i * size s + size s ≤ (φ k).cap * size s := by
      have := Nat.mul_le_mul_right (size s) (show i + 1 ≤ (φ k).cap by omega); rw [Nat.add_mul] at this; omega
    have hun : (a.eval y).cells.toList.length = P.cellsOf t := by rw [h1.len, hn]
    have hsz2 : (a.eval y).cells.size = (a.eval y).cells.toList.length := by simp
    have hrun := store_run (P := P) (w := w) ho hxv rfl hun h0 hblk (by omega) h2
    unfold Oper.wp
    rw [hrun]
    have hMk : M1 (φ k).blk := (hgm hc0).2 trivial
    refine hk _ undef _ _ _ (hR.wr hkk1 (by exact hc0) hMk (OneB.setRow _ _ _) (.row s (xs.set i x') false) ⟨rfl, by simp⟩ (fun E => ?_)) (by simp only [RA])
    simp only [RObj]
    refine ⟨⟨hpl, hz, .inr ⟨_, e, hc0, hc63, setRow_new hblk, ?_, by simpa using hle, fun j hj => ?_⟩⟩, fun _ => ⟨fun hf => (by cases hf), fun _ => hMk⟩⟩
    · simp only [List.size_toArray, List.length_append, List.length_take, List.length_drop, Array.length_toList]; omega
    · refine RT.mono hpl ?_ E.g E.ag
      simp only [List.length_set] at hj
      by_cases hji : j = i
      · subst hji
        rw [List.getElem_set_self]
        have e3 : ((c.toList.take ((φ k).base + j * size s + off) ++ (a.eval y).cells.toList ++ c.toList.drop ((φ k).base + j * size s + off + (a.eval y).cells.toList.length)).drop ((φ k).base + j * size s)).take (size s) =
            ((c.toList.drop ((φ k).base + j * size s)).take (size s)).take off ++ (a.eval y).cells.toList ++ ((c.toList.drop ((φ k).base + j * size s)).take (size s)).drop (off + (a.eval y).cells.toList.length) := by
          apply List.ext_getElem?
          intro q
          simp only [List.getElem?_take, List.getElem?_drop, List.getElem?_append, List.length_take, List.length_drop, List.length_append, Array.length_toList]
          by_cases hq : q < size s
          · by_cases hq1 : q < off
            · have c1 : (φ k).base + j * size s + q < (φ k).base + j * size s + off := by omega
              have c2 : q < min off (min (size s) (c.size - ((φ k).base + j * size s))) := by omega
              have c3 : q < min off (min (size s) (c.size - ((φ k).base + j * size s))) + (a.eval y).cells.toList.length := by omega
              have c4 : (φ k).base + j * size s + q < min ((φ k).base + j * size s + off) c.size := by omega
              have c5 : (φ k).base + j * size s + q < min ((φ k).base + j * size s + off) c.size + (a.eval y).cells.size := by omega
              simp only [Array.length_toList] at c3
              simp [hq, hq1, c1, c2, c3, c4, c5]
            · by_cases hq2 : q < off + (a.eval y).cells.size
              · have c1 : ¬ ((φ k).base + j * size s + q < min ((φ k).base + j * size s + off) c.size) := by omega
                have c2 : ¬ (q < min off (min (size s) (c.size - ((φ k).base + j * size s)))) := by omega
                have c3 : q < min off (min (size s) (c.size - ((φ k).base + j * size s))) + (a.eval y).cells.size := by omega
                have c5 : (φ k).base + j * size s + q < min ((φ k).base + j * size s + off) c.size + (a.eval y).cells.size := by omega
                simp only [hq, c1, c2, c3, c5, if_true, if_false]
                congr 1
                omega
              · have c1 : ¬ (q < min off (min (size s) (c.size - ((φ k).base + j * size s))) + (a.eval y).cells.size) := by omega
                have c5 : ¬ ((φ k).base + j * size s + q < min ((φ k).base + j * size s + off) c.size + (a.eval y).cells.size) := by omega
                have c6 : off + (a.eval y).cells.size + (q - (min off (min (size s) (c.size - ((φ k).base + j * size s))) + (a.eval y).cells.size)) = q := by omega
                have c7 : (φ k).base + j * size s + off + (a.eval y).cells.size + ((φ k).base + j * size s + q - (min ((φ k).base + j * size s + off) c.size + (a.eval y).cells.size)) = (φ k).base + j * size s + q := by omega
                simp only [hq, c1, c5, if_true, if_false, c6, c7]
          · have c1 : ¬ (q < min off (min (size s) (c.size - ((φ k).base + j * size s))) + (a.eval y).cells.size) := by omega
            have c6 : off + (a.eval y).cells.size + (q - (min off (min (size s) (c.size - ((φ k).base + j * size s))) + (a.eval y).cells.size)) = q := by omega
            simp only [hq, c1, if_false, c6]
        rw [List.toList_toArray, e3]
        exact hrt
      · rw [List.getElem_set_ne (Ne.symm hji)]
        have e3 : ((c.toList.take ((φ k).base + i * size s + off) ++ (a.eval y).cells.toList ++ c.toList.drop ((φ k).base + i * size s + off + (a.eval y).cells.toList.length)).drop ((φ k).base + j * size s)).take (size s) = (c.toList.drop ((φ k).base + j * size s)).take (size s) := by
          apply List.ext_getElem?
          intro q
          simp only [List.getElem?_take, List.getElem?_drop, List.getElem?_append, List.length_take, List.length_append, Array.length_toList]
          by_cases hq : q < size s
          · simp only [hq, if_true]
            rcases Nat.lt_or_gt_of_ne hji with hlt | hgt
            · have hm : j * size s + size s ≤ i * size s := by
                have := Nat.mul_le_mul_right (size s) (show j + 1 ≤ i from hlt); rw [Nat.add_mul] at this; omega
              have c4 : (φ k).base + j * size s + q < min ((φ k).base + i * size s + off) c.size := by omega
              have c5 : (φ k).base + j * size s + q < min ((φ k).base + i * size s + off) c.size + (a.eval y).cells.size := by omega
              have c6 : (φ k).base + j * size s + q < (φ k).base + i * size s + off := by omega
              simp only [c4, c5, c6, if_true]
            · have hm : i * size s + size s ≤ j * size s := by
                have := Nat.mul_le_mul_right (size s) (show i + 1 ≤ j from hgt); rw [Nat.add_mul] at this; omega
              have c5 : ¬ ((φ k).base + j * size s + q < min ((φ k).base + i * size s + off) c.size + (a.eval y).cells.size) := by omega
              simp only [c5, if_false]
              congr 1
              omega
          · simp only [hq, if_false]
        rw [List.toList_toArray, e3]
        exact hcells j hj
end
end Go.AM
