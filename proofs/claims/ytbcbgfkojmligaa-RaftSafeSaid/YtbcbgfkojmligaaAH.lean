import Derived.Test.YtbcbgfkojmligaaAG
import Derived.MapKept
/- Part of an abstract machine for Go code and of its soundness, for any program of the model; no condition. -/
set_option maxHeartbeats 4000000
set_option linter.unusedVariables false
set_option linter.unusedSimpArgs false
set_option linter.unusedSimpArgs false
set_option linter.constructorNameAsVariable false
namespace Go.AM
open Go.RowKit
/-! ### maps: numbers by numbers -/
theorem findNow_int {k : Int} : ∀ {es : List MapEntry} {m : List (Int × Int)} {i : Nat}, es.map (fun e => (e.key, e.val)) = m.map (fun e => (Value.int .i64 e.1, Value.int .i64 e.2)) →
    Instr.findNow (.int .i64) (.int .i64 k) es i = some ((mpFind k m i).map fun p => (p.1, Value.int .i64 p.2)) := by
  intro es
  induction es with
  | nil =>
    intro m i h
    cases m with
    | nil => rfl
    | cons p m => simp at h
  | cons e es ih =>
    intro m i h
    cases m with
    | nil => simp at h
    | cons p m =>
      obtain ⟨a, v⟩ := p
      simp only [List.map_cons, List.cons.injEq, Prod.mk.injEq] at h
      obtain ⟨⟨h1, h2⟩, h3⟩ := h
      simp only [Instr.findNow, h1, Instr.sameNow, if_true, mpFind]
      by_cases hk : k = a
      · subst hk
        simp [h2]
      · have : (k == a) = false := by simpa using hk
        simp only [this, if_neg hk]
        exact ih h3
theorem mpFind_lt {k : Int} : ∀ {m : List (Int × Int)} {i j : Nat} {v : Int}, mpFind k m i = some (j, v) → i ≤ j ∧ m[j - i]? = some (k, v) := by
  intro m
  induction m with
  | nil => intro i j v h; simp [mpFind] at h
  | cons p m ih =>
    intro i j v h
    obtain ⟨a, u⟩ := p
    simp only [mpFind] at h
    split at h
    · rename_i e
      cases h
      subst e
      exact ⟨Nat.le_refl _, by simp⟩
    · obtain ⟨h1, h2⟩ := ih h
      refine ⟨by omega, ?_⟩
      rw [show j - i = (j - (i + 1)) + 1 by omega]
      simpa using h2
theorem mapInts_spec {P : Program} {t kt et : TypeId} (h : mapInts P t = some (kt, et)) : P.underlying t = some (.map kt et) ∧ P.underlying kt = some (.int .i64) ∧ ∀ w : World, (zeroValue et).run P w = .ok (.int .i64 0) w := by
  unfold mapInts at h
  split at h
  · rename_i kt' et' h1
    split at h
    · rename_i h2
      split at h
      · rename_i h3
        cases h
        refine ⟨h1, h2, fun w => ?_⟩
        unfold zeroI64 at h3
        split at h3
        · rename_i i hi
          split at h3
          · rename_i hz
            simp [zeroValue, typeInfo, hi, hz]
          · cases h3
        · cases h3
      · cases h
    · cases h
  · cases h
section
variable {P : Program} {TT : TyTab} {N : Nat} {rowAt : List Nat} {X : Ctx} {σ : St} {a : Act} {w : World} {φ : Nat → Loc} {G M : Nat → Prop} {o : Oper} {next : Act → World → Prop} {Q : Exit → Act → World → Prop}
theorem sound_mkm (h : Rel P X σ a w φ G M) {t : TypeId} (ho : o.op = .makeMap t none) {d : Nat} (hd : hget σ.heap d = none)
    (hk : Cont P X σ { put := [(d, .mp [])] } (.mp d) a o next) : o.wp P a w next Q := by
  have hrun : (execOp a.eval o).run P w = .ok (.value (.map (some w.heap.size))) (w.alloc (.map #[] 0)) := by
    have h1 : ∀ w : World, (Instr.makeMap t none).run P w = .ok (.map (some w.heap.size)) (w.alloc (.map #[] 0)) := fun _ => rfl
    simp only [execOp, ho, Option.map_none, Sem.run_bind, h1, Result.andThen_ok, Sem.run_pure]
  unfold Oper.wp
  rw [hrun]
  have hR := h.new (NewB.alloc w (.map #[] 0)) d (.mp []) ⟨w.heap.size, 0, 0⟩ hd rfl (fun φ' G' M' H' E e1 e2 => by
    simp only [RObj, e1]
    exact ⟨e2, #[], 0, (NewB.alloc w (.map #[] 0)).new, rfl⟩)
  refine hk _ _ _ _ _ hR ?_
  simp only [RA, eff_put1, hget_hput_self, setφ_self]
  exact ⟨trivial, trivial⟩
theorem sound_mget (h : Rel P X σ a w φ G M) {t kt et : TypeId} {x y : Operand} (ho : o.op = .lookup t x y true) (ht : P.underlying t = some (.map kt et)) (hkt : P.underlying kt = some (.int .i64))
    {k : Nat} {n : Int} (hx : RA P φ G M w σ.heap (.mp k) (a.eval x)) (hy : a.eval y = .int .i64 n) {m : List (Int × Int)}
    (hkk : hget σ.heap k = some (.mp m)) (hz3 : ∀ w : World, (zeroValue et).run P w = .ok (.int .i64 0) w) (hk : Cont P X σ {} (.tup [.int .i64 (mpGet m n), .bool (mpHas m n)]) a o next) : o.wp P a w next Q := by
  simp only [RA] at hx
  obtain ⟨hx, _⟩ := hx
  have hob := h.heap.obj k _ hkk
  simp only [RObj] at hob
  obtain ⟨hM, es, clock, hb, he⟩ := hob
  have hf := MapKept.run_findKey (w := w) hkt (findNow_int (k := n) (i := 0) he)
  have hrun : (execOp a.eval o).run P w = .ok (.value (.tuple #[.int .i64 (mpGet m n), .bool (mpHas m n)])) w := by
    cases hc : mpFind n m 0 with
    | none =>
      rw [hc] at hf
      have hg : mpGet m n = 0 := by unfold mpGet; rw [hc]
      have hh : mpHas m n = false := by unfold mpHas; rw [hc]; rfl
      simp [execOp, ho, hx, hy, Instr.lookup, run_underlying ht, MapKept.run_getObj_map hb, MapKept.run_checkKey hkt (k := .int .i64 n) (show MapKept.IsKey (.int .i64) (.int .i64 n) from rfl), hf, hz3, Result.andThen, hg, hh]
    | some p =>
      rw [hc] at hf
      have hg : mpGet m n = p.2 := by unfold mpGet; rw [hc]
      have hh : mpHas m n = true := by unfold mpHas; rw [hc]; rfl
      simp [execOp, ho, hx, hy, Instr.lookup, run_underlying ht, MapKept.run_getObj_map hb, MapKept.run_checkKey hkt (k := .int .i64 n) (show MapKept.IsKey (.int .i64) (.int .i64 n) from rfl), hf, Result.andThen, hg, hh]
  unfold Oper.wp
  rw [hrun]
  refine hk w _ φ G M h ?_
  simp only [RA]
  exact ⟨_, rfl, by simp [RAL, RA]⟩
theorem sound_mput (h : Rel P X σ a w φ G M) {t kt et : TypeId} {x y z : Operand} (ho : o.op = .mapUpdate t x y z) (ht : P.underlying t = some (.map kt et)) (hkt : P.underlying kt = some (.int .i64))
    {k : Nat} {n v : Int} (hx : RA P φ G M w σ.heap (.mp k) (a.eval x)) (hy : a.eval y = .int .i64 n) (hv : a.eval z = .int .i64 v) {m : List (Int × Int)}
    (hkk : hget σ.heap k = some (.mp m)) (hk : Cont P X σ { put := [(k, .mp (mpPut m n v))] } .undef a o next) : o.wp P a w next Q := by
  simp only [RA] at hx
  obtain ⟨hx, _⟩ := hx
  have hob := h.heap.obj k _ hkk
  simp only [RObj] at hob
  obtain ⟨hM, es, clock, hb, he⟩ := hob
  have hf := MapKept.run_findKey (w := w) hkt (findNow_int (k := n) (i := 0) he)
  have hone : ∀ ob, OneB w { w with heap := w.heap.setIfInBounds (φ k).blk ob } (φ k).blk := fun ob => ⟨rfl, rfl, rfl, fun i hi => (MapKept.heap_set (o' := ob) hb).2 i hi, by simp⟩
  have hlen : es.toList.length = m.length := by have := congrArg List.length he; simpa using this
  have hrun : ∃ es' clock', (execOp a.eval o).run P w = .ok .skip { w with heap := w.heap.setIfInBounds (φ k).blk (.map es' clock') } ∧
      es'.toList.map (fun e => (e.key, e.val)) = (mpPut m n v).map (fun e => (Value.int .i64 e.1, Value.int .i64 e.2)) := by
    cases hc : mpFind n m 0 with
    | none =>
      rw [hc] at hf
      refine ⟨es.push ⟨.int .i64 n, .int .i64 v, clock⟩, clock + 1, ?_, ?_⟩
      · simp [execOp, ho, hx, hy, hv, Instr.mapUpdate, run_underlying ht, MapKept.run_getObj_map hb, MapKept.run_checkKey hkt (k := .int .i64 n) (show MapKept.IsKey (.int .i64) (.int .i64 n) from rfl), hf, MapKept.run_setObj_map _ hb, Result.andThen]
      · unfold mpPut
        rw [hc]
        simp [he]
    | some p =>
      obtain ⟨i, u⟩ := p
      rw [hc] at hf
      obtain ⟨_, hi⟩ := mpFind_lt hc
      simp only [Nat.sub_zero] at hi
      have hil : i < m.length := (List.getElem?_eq_some_iff.1 hi).1
      have hei : ∃ e, es[i]? = some e ∧ e.key = .int .i64 n := by
        have h1 : (es.toList.map (fun e => (e.key, e.val)))[i]? = (m.map (fun e => (Value.int .i64 e.1, Value.int .i64 e.2)))[i]? := by rw [he]
        rw [List.getElem?_map, List.getElem?_map, hi] at h1
        cases h2 : es.toList[i]? with
        | none => rw [h2] at h1; simp at h1
        | some e =>
          rw [h2] at h1
          simp only [Option.map_some, Option.some.injEq, Prod.mk.injEq] at h1
          exact ⟨e, by rw [← Array.getElem?_toList]; exact h2, h1.1⟩
      obtain ⟨e, he1, he2⟩ := hei
      refine ⟨es.modify i fun e => { e with key := .int .i64 n, val := .int .i64 v }, clock, ?_, ?_⟩
      · simp [execOp, ho, hx, hy, hv, Instr.mapUpdate, run_underlying ht, MapKept.run_getObj_map hb, MapKept.run_checkKey hkt (k := .int .i64 n) (show MapKept.IsKey (.int .i64) (.int .i64 n) from rfl), hf, MapKept.run_setObj_map _ hb, Result.andThen, he1, he2, MapKept.run_keyThatStays (k := .int .i64 n) (d := .int .i64) rfl]
      · unfold mpPut
        rw [hc]
        simp only
        rw [Array.toList_modify, List.map_set, ← he]
        have hil2 : i < es.toList.length := by omega
        apply List.ext_getElem?
        intro j
        rw [List.getElem?_map, List.getElem?_modify, List.getElem?_set, List.getElem?_map]
        by_cases e1 : i = j
        · subst e1
          rw [if_pos rfl, if_pos (by rw [List.length_map]; exact hil2), List.getElem?_eq_getElem hil2]
          simp
        · rw [if_neg e1]
          cases es.toList[j]? <;> simp [e1]
  obtain ⟨es', clock', hr, he'⟩ := hrun
  unfold Oper.wp
  rw [hr]
  refine hk _ undef _ _ _ (h.wr hkk trivial hM (hone _) (.mp (mpPut m n v)) trivial (fun E => ?_)) (by simp only [RA])
  simp only [RObj]
  exact ⟨hM, es', clock', (MapKept.heap_set hb).1, he'⟩
end
end Go.AM
