import Derived.Test.YtbcbgfkojmligaaAE
import Derived.Laws.MakeOwn
/- Part of an abstract machine for Go code and of its soundness, for any program of the model; no condition. -/
set_option maxHeartbeats 4000000
set_option linter.unusedVariables false
set_option linter.unusedSimpArgs false
set_option linter.unusedSimpArgs false
namespace Go.AM
open Go.RowKit
section
variable {P : Program} {TT : TyTab} {N : Nat} {rowAt : List Nat} {X : Ctx} {σ : St} {a : Act} {w : World} {φ : Nat → Loc} {G M : Nat → Prop} {o : Oper} {next : Act → World → Prop} {Q : Exit → Act → World → Prop}

theorem zerosAre_append : ∀ {as bs : List AV} {us : List Value}, zerosAre (as ++ bs) us = true → ∃ u1 u2, us = u1 ++ u2 ∧ zerosAre as u1 = true ∧ zerosAre bs u2 = true := by
  intro as
  induction as with
  | nil => intro bs us h; exact ⟨[], us, rfl, rfl, h⟩
  | cons c as ih =>
    intro bs us h
    cases us with
    | nil => simp [zerosAre] at h
    | cons u us =>
      simp only [List.cons_append, zerosAre, Bool.and_eq_true] at h
      obtain ⟨u1, u2, rfl, h1, h2⟩ := ih h.2
      exact ⟨u :: u1, u2, rfl, by simp [zerosAre, h.1, h1], h2⟩

/-- The zero of a type, read. -/
theorem zero_RT {t : Ty} : ∀ {us : List Value}, plain t = true → noRef t = true → zerosAre (zcells t) us = true → RT P t G w (dflt t) us := by
  induction t with
  | int k =>
    intro us _ _ h
    cases us with
    | nil => simp [zcells, zerosAre] at h
    | cons u us =>
      cases us with
      | nil =>
        simp only [zcells, zerosAre, Bool.and_true] at h
        unfold zeroIs at h
        split at h <;> simp_all [RT, dflt]
      | cons v us => simp [zcells, zerosAre] at h
  | bool =>
    intro us _ _ h
    cases us with
    | nil => simp [zcells, zerosAre] at h
    | cons u us =>
      cases us with
      | nil =>
        simp only [zcells, zerosAre, Bool.and_true] at h
        unfold zeroIs at h
        split at h <;> simp_all [RT, dflt]
      | cons v us => simp [zcells, zerosAre] at h
  | str =>
    intro us _ _ h
    cases us with
    | nil => simp [zcells, zerosAre] at h
    | cons u us =>
      cases us with
      | nil =>
        simp only [zcells, zerosAre, Bool.and_true] at h
        unfold zeroIs at h
        split at h
        · cases ‹AV.str _ = AV.int _ _›
        · cases ‹AV.str _ = AV.bool _›
        · rename_i s s' he
          simp only [Bool.and_eq_true, beq_iff_eq] at h
          simp only [RT, dflt]
          have e1 : s'.data = #[] := Array.eq_empty_of_size_eq_zero h.2
          cases s'; simp_all
        · cases ‹AV.str _ = AV.sl _ _ _›
        · cases ‹AV.str _ = AV.nilf›
        · cases ‹AV.str _ = AV.undef›
        · cases h
      | cons v us => simp [zcells, zerosAre] at h
  | list t _ =>
    intro us _ _ h
    cases us with
    | nil => simp [zcells, zerosAre] at h
    | cons u us =>
      cases us with
      | nil =>
        simp only [zcells, zerosAre, Bool.and_true] at h
        unfold zeroIs at h
        split at h <;> simp_all [RT, dflt]
      | cons v us => simp [zcells, zerosAre] at h
  | olist t _ =>
    intro us _ _ h
    cases us with
    | nil => simp [zcells, zerosAre] at h
    | cons u us =>
      cases us with
      | nil =>
        simp only [zcells, zerosAre, Bool.and_true] at h
        unfold zeroIs at h
        split at h <;> simp_all [RT, dflt]
      | cons v us => simp [zcells, zerosAre] at h
  | flist t _ =>
    intro us _ _ h
    cases us with
    | nil => simp [zcells, zerosAre] at h
    | cons u us =>
      cases us with
      | nil =>
        simp only [zcells, zerosAre, Bool.and_true] at h
        unfold zeroIs at h
        split at h <;> simp_all [RT, dflt]
      | cons v us => simp [zcells, zerosAre] at h
  | unit => intro us _ _ h; cases us with
    | nil => simp only [RT]
    | cons u us => simp [zcells, zerosAre] at h
  | pair a b iha ihb =>
    intro us hp hn h
    simp only [plain, Bool.and_eq_true] at hp
    simp only [noRef, Bool.and_eq_true] at hn
    simp only [zcells] at h
    obtain ⟨u1, u2, rfl, h1, h2⟩ := zerosAre_append h
    simp only [RT]
    exact ⟨u1, u2, rfl, iha hp.1 hn.1 h1, ihb hp.2 hn.2 h2⟩
  | fn a r _ _ => intro us hp; simp [plain] at hp
  | ref t _ => intro us _ hn; simp [noRef] at hn

theorem zerosAre_len : ∀ {as : List AV} {us : List Value}, zerosAre as us = true → us.length = as.length := by
  intro as
  induction as with
  | nil => intro us h; cases us with
    | nil => rfl
    | cons u us => simp [zerosAre] at h
  | cons c as ih => intro us h; cases us with
    | nil => simp [zerosAre] at h
    | cons u us => simp only [zerosAre, Bool.and_eq_true] at h; simp [ih h.2]

theorem zcells_len (t : Ty) : (zcells t).length = size t := by
  induction t <;> simp_all [zcells, size]

/-- A new row of one's own. -/
theorem row_cont (h : Rel P X σ a w φ G M) {d : Nat} {t : Ty} {xs : List (den t)} {cells : Array Value} {e : TypeId} {w' : World} {cap : Nat} (hd : hget σ.heap d = none) (hn : NewB w w' (.cells cells e))
    (hpl : plain t = true) (hz : 0 < size t) (hm : cap ≤ 9223372036854775807) (hs : cap * size t ≤ cells.size) (hl : xs.length ≤ cap) (hc : ∀ i, (hi : i < xs.length) → RT P t G w xs[i] ((cells.toList.drop (i * size t)).take (size t))) :
    ∃ φ' G' M', Rel P X ⟨σ.env, hput σ.heap d (.row t xs false)⟩ a w' φ' G' M' ∧ φ' d = ⟨if cap = 0 then 0 else w.heap.size, 0, cap⟩ := by
  by_cases h0 : cap = 0
  · subst h0
    have hx : xs = [] := List.eq_nil_of_length_eq_zero (by omega)
    subst hx
    have h1 := (h.ro hn).newNo d t false hpl hz hd
    exact ⟨_, _, _, h1, by simp [setφ]⟩
  · have h1 := h.new hn d (.row t xs false) ⟨w.heap.size, 0, cap⟩ hd rfl (fun φ' G' M' H' E e1 e2 => by
      simp only [RObj, e1]
      refine ⟨⟨hpl, hz, .inr ⟨cells, e, by show 0 < cap; omega, hm, hn.new, by simpa using hs, hl, fun i hi => ?_⟩⟩, fun _ => ⟨fun hf => (by cases hf), fun _ => e2⟩⟩
      simpa using (hc i hi).mono hpl E.g E.ag)
    exact ⟨_, _, _, h1, by simp [setφ, h0]⟩

theorem own_all {φ' : Nat → Loc} {G' M' : Nat → Prop} {w' : World} {H : Heap} {d : Nat} {t : Ty} {xs : List (den t)} {f : Bool} {cap b : Nat} (hφ : φ' d = ⟨if cap = 0 then 0 else b, 0, cap⟩) (hl : xs.length ≤ cap) (n : Nat) (hn : n ≤ xs.length) :
    RA P φ' G' M' w' (hput H d (.row t xs f)) (.own d 0 n) (.slice (some ⟨b, 0, none⟩) n cap) := by
  simp only [RA, hget_hput_self]
  refine ⟨by omega, some ⟨b, 0, none⟩, by rw [hφ]; simp, by rw [hφ]; simp; omega, ?_⟩
  rw [hφ]
  by_cases h0 : cap = 0
  · left; simp [h0]
  · right; simp [h0]

theorem madeCells_get (z : Array Value) (n i : Nat) (hz : 0 < z.size) (hi : i < n) : (((Array.range (n * z.size)).map (z[· % z.size]!)).toList.drop (i * z.size)).take z.size = z.toList := by
  apply List.ext_getElem?
  intro j
  rw [List.getElem?_take]
  split
  · rename_i hj
    rw [List.getElem?_drop]
    have hlt : i * z.size + j < n * z.size := by
      have : (i + 1) * z.size ≤ n * z.size := Nat.mul_le_mul_right _ hi
      rw [Nat.add_mul] at this
      omega
    have hmod : (i * z.size + j) % z.size = j := by rw [Nat.mul_comm, Nat.mul_add_mod, Nat.mod_eq_of_lt hj]
    simp [hlt, hmod, hj]
  · rename_i hj
    rw [List.getElem?_eq_none (by simp; omega)]

theorem sound_mks (h : Rel P X σ a w φ G M) {t e : TypeId} {x y : Operand} (ho : o.op = .makeSlice t x y) (hu : P.underlying t = some (.slice e)) {ty : Ty} (hpl : plain ty = true) (hnr : noRef ty = true) (hc : P.cellsOf e = size ty) (h0 : 0 < size ty)
    (hz : hasZero P e = true) (hza : zerosAre (zcells ty) (zeroOf P e) = true) {l c : Int} (hx : RA P φ G M w σ.heap (.int .i64 l) (a.eval x)) (hy : RA P φ G M w σ.heap (.int .i64 c) (a.eval y)) {d : Nat} (hd : hget σ.heap d = none)
    (hn : 0 ≤ l ∧ l ≤ c ∧ c ≤ 140737488355328 ∧ c * (P.bytesOf e : Int) ≤ 140737488355328)
    (hk : Cont P X σ { put := [(d, .row ty (List.replicate l.toNat (dflt ty)) false)] } (.own d 0 l.toNat) a o next) : o.wp P a w next Q := by
  simp only [RA] at hx hy
  obtain ⟨h1, h2, h3, h4⟩ := hn
  obtain ⟨z, hzr, hzc⟩ := zero_run (P := P) (w := w) hz
  obtain ⟨i, hi, his⟩ := info_of_cells (P := P) (t := e) (by omega)
  have hib : i.bytes = P.bytesOf e := by simp [Program.bytesOf, hi]
  have hwl : IntKind.i64.wrap l = l := wrap_in (by simp [InR, IntKind.min, IntKind.max, IntKind.signed, IntKind.bits]; omega)
  have hwc : IntKind.i64.wrap c = c := wrap_in (by simp [InR, IntKind.min, IntKind.max, IntKind.signed, IntKind.bits]; omega)
  have hzl : z.cells.size = size ty := by
    have := zerosAre_len hza
    rw [zcells_len, ← hzc] at this
    simpa using this
  let cells : Array Value := (Array.range (c.toNat * size ty)).map ((if c.toNat * size ty = 0 then #[] else z.cells)[· % (if c.toNat * size ty = 0 then #[] else z.cells).size]!)
  obtain ⟨w', hrun, hnb⟩ := newB_run (P := P) (w := w) (cells := cells) (t := e)
  have hex : (execOp a.eval o).run P w = .ok (.value (.slice (some ⟨w.heap.size, 0, none⟩) l.toNat c.toNat)) w' := by
    have hbb : (i.bytes : Int) * c ≤ 281474976710656 := by rw [hib, Int.mul_comm]; omega
    have hng : ¬ (c < 0) := by omega
    have hng2 : ¬ (281474976710656 < (i.bytes : Int) * c) := by omega
    have hng3 : ¬ (l < 0) := by omega
    have hng4 : ¬ (c < l) := by omega
    have hsr : (Go.sizeOf e).run P w = .ok (size ty) w := by rw [← hc]; exact size_run (by omega)
    by_cases h00 : c.toNat * size ty = 0
    · have hcells : cells = (Array.range (c.toNat * size ty)).map ((#[] : Array Value)[· % (#[] : Array Value).size]!) := by simp only [cells, h00, if_true]
      simp only [execOp, ho, Instr.makeSlice, Sem.run_bind, underlying, run_program, Result.andThen_ok, hu, Sem.run_pure, asInt, asIntOf, hx, hy, typeInfo, hi, hwl, hwc]
      simp only [show (c < 0) = False from eq_false hng, decide_false, Bool.false_or, gt_iff_lt, Int.reducePow, show (281474976710656 < (i.bytes : Int) * c) = False from eq_false hng2, show (l < 0) = False from eq_false hng3, show (c < l) = False from eq_false hng4, Bool.or_self, Bool.false_eq_true, if_false, Sem.run_bind, Sem.run_pure, Result.andThen_ok, run_askRoom, hsr, if_pos h00]
      rw [← hcells, hrun]
      rfl
    · have hcells : cells = (Array.range (c.toNat * size ty)).map (z.cells[· % z.cells.size]!) := by simp only [cells, h00, if_false]
      simp only [execOp, ho, Instr.makeSlice, Sem.run_bind, underlying, run_program, Result.andThen_ok, hu, Sem.run_pure, asInt, asIntOf, hx, hy, typeInfo, hi, hwl, hwc]
      simp only [show (c < 0) = False from eq_false hng, decide_false, Bool.false_or, gt_iff_lt, Int.reducePow, show (281474976710656 < (i.bytes : Int) * c) = False from eq_false hng2, show (l < 0) = False from eq_false hng3, show (c < l) = False from eq_false hng4, Bool.or_self, Bool.false_eq_true, if_false, Sem.run_bind, Sem.run_pure, Result.andThen_ok, run_askRoom, hsr, if_neg h00, hzr]
      rw [← hcells, hrun]
      rfl
  unfold Oper.wp
  rw [hex]
  have hcs : cells.size = c.toNat * size ty := by simp [cells]
  obtain ⟨φ', G', M', hR, hφ⟩ := row_cont h (t := ty) (xs := List.replicate l.toNat (dflt ty)) (cap := c.toNat) hd hnb hpl h0 (by omega) (by omega) (by simp; omega) (fun i hi => by
    simp only [List.length_replicate] at hi
    have hc0 : ¬ (c.toNat * size ty = 0) := by
      have : 0 < c.toNat := by omega
      have := Nat.mul_pos this h0
      omega
    have hg := madeCells_get z.cells c.toNat i (by omega) (by omega)
    rw [hzl] at hg
    have hcl : cells.toList = ((Array.range (c.toNat * size ty)).map (z.cells[· % size ty]!)).toList := by simp only [cells, hc0, if_false, hzl]
    rw [hcl, hg, hzc, List.getElem_replicate]
    exact zero_RT hpl hnr hza)
  exact hk w' _ _ _ _ hR (own_all hφ (by simp; omega) _ (by simp))

theorem sound_allocA (h : Rel P X σ a w φ G M) {t e : TypeId} {n : Nat} (ho : o.op = .alloc t) {ty : Ty} (hpl : plain ty = true) (hnr : noRef ty = true) (h0 : 0 < size ty) (hn0 : 0 < n) (hz : hasZero P t = true)
    (hza : zerosAre ((List.replicate n (zcells ty)).flatten) (zeroOf P t) = true) (hn63 : n ≤ 9223372036854775807) {d : Nat} (hd : hget σ.heap d = none)
    (hk : Cont P X σ { put := [(d, .row ty (List.replicate n (dflt ty)) false)] } (.rptr d 0 0) a o next) : o.wp P a w next Q := by
  obtain ⟨z, hzr, hzc⟩ := zero_run (P := P) (w := w) hz
  obtain ⟨w', hrun, hn⟩ := newB_run (P := P) (w := w) (cells := z.cells) (t := t)
  have hex : (execOp a.eval o).run P w = .ok (.value (.pointer (some ⟨w.heap.size, 0, none⟩))) w' := by
    simp only [execOp, ho, Instr.alloc, newVar, Sem.run_bind, hzr, hrun, Result.andThen_ok, Sem.run_pure]
  unfold Oper.wp
  rw [hex]
  have key : ∀ (n : Nat) (us : List Value), zerosAre ((List.replicate n (zcells ty)).flatten) us = true → us.length = n * size ty ∧ ∀ i, i < n → zerosAre (zcells ty) ((us.drop (i * size ty)).take (size ty)) = true := by
    intro n
    induction n with
    | zero => intro us h; cases us with
      | nil => exact ⟨by simp, fun i hi => by omega⟩
      | cons u us => simp [zerosAre] at h
    | succ n ih =>
      intro us h
      rw [List.replicate_succ, List.flatten_cons] at h
      obtain ⟨u1, u2, rfl, h1, h2⟩ := zerosAre_append h
      obtain ⟨h3, h4⟩ := ih u2 h2
      have hl1 : u1.length = size ty := by rw [zerosAre_len h1, zcells_len]
      refine ⟨by simp [hl1, h3, Nat.add_mul]; omega, fun i hi => ?_⟩
      cases i with
      | zero => simp only [Nat.zero_mul, List.drop_zero]; rw [List.take_append_of_le_length (by omega), List.take_of_length_le (by omega)]; exact h1
      | succ i =>
        rw [List.drop_append, show (i + 1) * size ty = size ty + i * size ty by rw [Nat.add_mul]; omega, List.drop_of_length_le (by omega), List.nil_append, hl1, show size ty + i * size ty - size ty = i * size ty by omega]
        exact h4 i (by omega)
  obtain ⟨hlen, hcells⟩ := key n _ hza
  obtain ⟨φ', G', M', hR, hφ⟩ := row_cont h (t := ty) (xs := List.replicate n (dflt ty)) (cap := n) hd hn hpl h0 hn63 (by rw [← Array.length_toList, hzc, hlen]; omega) (by simp) (fun i hi => by
    simp only [List.length_replicate] at hi
    rw [hzc, List.getElem_replicate]
    exact zero_RT hpl hnr (hcells i hi))
  refine hk w' _ _ _ _ hR ?_
  simp only [RA, eff_put1, hget_hput_self, hφ]
  exact ⟨by simpa using hn0, by simp; omega⟩

/-! ### a piece of a slice -/
theorem bound_run (x : Int) (y : Nat) (c : BoundsCode) (hx : 0 ≤ x) (hy : x ≤ y) : (Instr.sliceBound (.int .i64 x) y c).run P w = .ok x.toNat w := by
  simp [Instr.sliceBound, asIntOf, hx, hy]

theorem RAL.one {H : Heap} {k : IntKind} {x : Int} {us : List Value} (h : RAL P φ G M w H [.int k x] us) : us = [.int k x] := by
  simp only [RAL, RA] at h; obtain ⟨u, us', rfl, rfl, rfl⟩ := h; rfl
theorem RAL.two {H : Heap} {k k' : IntKind} {x y : Int} {us : List Value} (h : RAL P φ G M w H [.int k x, .int k' y] us) : us = [.int k x, .int k' y] := by
  simp only [RAL, RA] at h; obtain ⟨u, us', rfl, rfl, u', us'', rfl, rfl, rfl⟩ := h; rfl
theorem RAL.three {H : Heap} {k k' k'' : IntKind} {x y z : Int} {us : List Value} (h : RAL P φ G M w H [.int k x, .int k' y, .int k'' z] us) : us = [.int k x, .int k' y, .int k'' z] := by
  simp only [RAL, RA] at h; obtain ⟨u, us', rfl, rfl, u', us'', rfl, rfl, u3, us3, rfl, rfl, rfl⟩ := h; rfl

theorem bounds_run {n cap : Nat} {lo hi mx : Bool} {vs : List AV} {l h m : Int} (isS : Bool) (hb : bounds n lo hi mx vs = some (l, h, m)) (h0 : 0 ≤ l) (h1 : l ≤ h) (h2 : h ≤ m) (h3 : m ≤ n) (hc : n ≤ cap) {H : Heap}
    {low high max : Option Value} (hr : RAL P φ G M w H vs (low.toList ++ high.toList ++ max.toList)) (hl : low.isSome = lo) (hh : high.isSome = hi) (hm : max.isSome = mx) :
    (Instr.sliceBounds isS n cap low high max).run P w = .ok (l.toNat, h.toNat, if mx then m.toNat else cap) w ∧ (mx = false → m = n) ∧ (hi = false → h = n ∧ mx = false) := by
  unfold bounds at hb
  split at hb
  · simp only [Option.some.injEq, Prod.mk.injEq] at hb
    obtain ⟨rfl, rfl, rfl⟩ := hb
    cases low <;> cases high <;> cases max <;> simp at hl hh hm
    exact ⟨by simp [Instr.sliceBounds], fun _ => rfl, fun _ => ⟨rfl, rfl⟩⟩
  · simp only [Option.some.injEq, Prod.mk.injEq] at hb
    obtain ⟨rfl, rfl, rfl⟩ := hb
    rename_i l
    cases low <;> cases high <;> cases max <;> simp at hl hh hm
    have e := RAL.one hr
    simp only [Option.toList, List.append_nil, List.cons.injEq, and_true] at e
    subst e
    refine ⟨?_, fun _ => rfl, fun _ => ⟨rfl, rfl⟩⟩
    simp [Instr.sliceBounds, bound_run _ _ _ h0 h1]
  · simp only [Option.some.injEq, Prod.mk.injEq] at hb
    obtain ⟨rfl, rfl, rfl⟩ := hb
    rename_i h
    cases low <;> cases high <;> cases max <;> simp at hl hh hm
    have e := RAL.one hr
    simp only [Option.toList, List.append_nil, List.nil_append, List.cons.injEq, and_true] at e
    subst e
    refine ⟨?_, fun _ => rfl, fun hf => by cases hf⟩
    simp [Instr.sliceBounds, bound_run _ _ _ (Int.le_trans h0 h1) (show _ ≤ (cap : Int) by omega)]
  · simp only [Option.some.injEq, Prod.mk.injEq] at hb
    obtain ⟨rfl, rfl, rfl⟩ := hb
    rename_i l h
    cases low <;> cases high <;> cases max <;> simp at hl hh hm
    have e := RAL.two hr
    simp only [Option.toList, List.append_nil, List.cons_append, List.nil_append, List.cons.injEq, and_true] at e
    obtain ⟨rfl, rfl⟩ := e
    refine ⟨?_, fun _ => rfl, fun hf => by cases hf⟩
    simp [Instr.sliceBounds, bound_run _ _ _ (Int.le_trans h0 h1) (show _ ≤ (cap : Int) by omega), bound_run _ _ _ h0 (show l ≤ ((h.toNat : Nat) : Int) by omega)]
  · simp only [Option.some.injEq, Prod.mk.injEq] at hb
    obtain ⟨rfl, rfl, rfl⟩ := hb
    rename_i h m
    cases low <;> cases high <;> cases max <;> simp at hl hh hm
    have e := RAL.two hr
    simp only [Option.toList, List.append_nil, List.cons_append, List.nil_append, List.cons.injEq, and_true] at e
    obtain ⟨rfl, rfl⟩ := e
    refine ⟨?_, fun hf => (by cases hf), fun hf => by cases hf⟩
    simp [Instr.sliceBounds, bound_run _ _ _ (show (0 : Int) ≤ m by omega) (show m ≤ (cap : Int) by omega), bound_run _ _ _ (show (0 : Int) ≤ h by omega) (show h ≤ ((m.toNat : Nat) : Int) by omega)]
  · simp only [Option.some.injEq, Prod.mk.injEq] at hb
    obtain ⟨rfl, rfl, rfl⟩ := hb
    rename_i l h m
    cases low <;> cases high <;> cases max <;> simp at hl hh hm
    have e := RAL.three hr
    simp only [Option.toList, List.append_nil, List.cons_append, List.nil_append, List.cons.injEq, and_true] at e
    obtain ⟨rfl, rfl, rfl⟩ := e
    refine ⟨?_, fun hf => (by cases hf), fun hf => by cases hf⟩
    simp [Instr.sliceBounds, bound_run _ _ _ (show (0 : Int) ≤ m by omega) (show m ≤ (cap : Int) by omega), bound_run _ _ _ (show (0 : Int) ≤ h by omega) (show h ≤ ((m.toNat : Nat) : Int) by omega), bound_run _ _ _ h0 (show l ≤ ((h.toNat : Nat) : Int) by omega)]
  · cases hb

theorem bounds_m {n : Nat} {lo hi : Bool} {vs : List AV} {l h m : Int} (hb : bounds n lo hi false vs = some (l, h, m)) : m = n := by
  cases lo <;> cases hi <;> unfold bounds at hb <;> split at hb <;> simp_all <;> omega

theorem slc_run {t e : TypeId} {x : Operand} {lo hi mx : Option Operand} (ho : o.op = .slice t x lo hi mx) (hu : P.underlying t = some (.slice e)) {A : Option Addr} {len cap l h m : Nat} (hx : a.eval x = .slice A len cap) (h0 : 0 < P.cellsOf e)
    (hb : (Instr.sliceBounds true len cap (lo.map a.eval) (hi.map a.eval) (mx.map a.eval)).run P w = .ok (l, h, m) w) :
    (execOp a.eval o).run P w = .ok (.value (.slice (if m = l then A else A.map (·.add (l * P.cellsOf e))) (h - l) (m - l))) w := by
  simp only [execOp, ho, Instr.sliceAt, Instr.slice, Sem.run_bind, underlying, run_program, Result.andThen_ok, hu, Sem.run_pure, hx, hb, size_run h0]

theorem sound_slc_sl (hR : Rel P X σ a w φ G M) {t e : TypeId} {x : Operand} {lo hi mx : Option Operand} (ho : o.op = .slice t x lo hi mx) (hu : P.underlying t = some (.slice e)) {ty : Ty} {xs : List (den ty)} {full : Bool} (hS : size ty = P.cellsOf e)
    (hx : RA P φ G M w σ.heap (.sl ty xs full) (a.eval x)) {vs : List AV} (hvs : RAL P φ G M w σ.heap vs ((lo.map a.eval).toList ++ (hi.map a.eval).toList ++ (mx.map a.eval).toList)) {l h m : Int} (hb : bounds xs.length lo.isSome hi.isSome mx.isSome vs = some (l, h, m))
    (hn : 0 ≤ l ∧ l ≤ h ∧ h ≤ m ∧ m ≤ xs.length) (hk : Cont P X σ {} (.sl ty ((xs.take h.toNat).drop l.toNat) (if mx.isSome then decide (h = m) else if hi.isSome then false else full)) a o next) : o.wp P a w next Q := by
  simp only [RA, RT] at hx
  obtain ⟨hpl, hz, ⟨A, c, hx, hlc, hne⟩, hfull⟩ := hx
  simp only [List.cons.injEq, and_true] at hx
  obtain ⟨hbr, hm1, hm2⟩ := bounds_run (P := P) (w := w) (cap := c) true hb hn.1 hn.2.1 hn.2.2.1 hn.2.2.2 hlc hvs (by cases lo <;> rfl) (by cases hi <;> rfl) (by cases mx <;> rfl)
  have hrun := slc_run (P := P) (w := w) ho hu hx (by omega) hbr
  refine wp_value hR hrun ?_ hk
  have hlen : ((xs.take h.toNat).drop l.toNat).length = h.toNat - l.toNat := by simp; omega
  simp only [RA]
  refine ⟨hpl, hz, ?_, fun hf => ?_⟩
  · simp only [RT]
    refine ⟨_, (if mx.isSome then m.toNat else c) - l.toNat, by rw [hlen], by rw [hlen]; split <;> omega, ?_⟩
    rcases hne with rfl | ⟨ad, rfl, hs, hg, hcells⟩
    · left; simp
    · by_cases hlh : h.toNat ≤ l.toNat
      · left
        exact List.eq_nil_of_length_eq_zero (by rw [hlen]; omega)
      · right
        obtain ⟨b, ob, sp⟩ := ad
        simp only at hs hg hcells
        subst hs
        have hne' : (if mx.isSome then m.toNat else c) ≠ l.toNat := by split <;> omega
        rw [if_neg hne']
        refine ⟨⟨b, ob + l.toNat * P.cellsOf e, none⟩, by simp [addr_add], rfl, hg, fun i hi => ?_⟩
        rw [hlen] at hi
        obtain ⟨cs, h1, h2, h3⟩ := hcells (l.toNat + i) (by omega)
        refine ⟨cs, h1, by simpa [List.getElem_drop, List.getElem_take] using h2, fun j u hj => ?_⟩
        have := h3 j u hj
        rw [← hS]
        rwa [show ob + ((l.toNat + i) * size ty + j) = ob + l.toNat * size ty + (i * size ty + j) by rw [Nat.add_mul]; omega] at this
  · rw [hlen]
    have hc2 : (if mx.isSome then m.toNat else c) - l.toNat = h.toNat - l.toNat := by
      cases hmx : mx.isSome with
      | true =>
        simp only [hmx, if_true, decide_eq_true_eq] at hf ⊢
        omega
      | false =>
        cases hhi : hi.isSome with
        | true => simp [hmx, hhi] at hf
        | false =>
          simp only [hmx, hhi, Bool.false_eq_true, if_false] at hf ⊢
          obtain ⟨A', hA'⟩ := hfull hf
          rw [hx] at hA'
          simp only [Value.slice.injEq] at hA'
          have := hm2 hhi
          omega
    exact ⟨_, by rw [hc2]⟩

theorem sound_slc_own (hR : Rel P X σ a w φ G M) {t e : TypeId} {x : Operand} {lo hi mx : Option Operand} (ho : o.op = .slice t x lo hi mx) (hu : P.underlying t = some (.slice e)) {k lo0 n : Nat} {ty : Ty} {xs : List (den ty)} {f : Bool} (hkk : hget σ.heap k = some (.row ty xs f)) (hS : size ty = P.cellsOf e)
    (hmx : mx.isSome = false) (hx : RA P φ G M w σ.heap (.own k lo0 n) (a.eval x)) {vs : List AV} (hvs : RAL P φ G M w σ.heap vs ((lo.map a.eval).toList ++ (hi.map a.eval).toList ++ (mx.map a.eval).toList)) {l h m : Int} (hb : bounds n lo.isSome hi.isSome mx.isSome vs = some (l, h, m))
    (hn : 0 ≤ l ∧ l ≤ h ∧ h ≤ n) (hk : Cont P X σ {} (.own k (lo0 + l.toNat) (h.toNat - l.toNat)) a o next) : o.wp P a w next Q := by
  simp only [RA, hkk] at hx
  obtain ⟨hle, A, hx, hcap, hA⟩ := hx
  have hob := hR.heap.obj k _ hkk
  simp only [RObj] at hob
  obtain ⟨⟨hpl, hz, _⟩, _⟩ := hob
  have hmn : m = n := bounds_m (by rw [hmx] at hb; exact hb)
  obtain ⟨hbr, hm1, hm2⟩ := bounds_run (P := P) (w := w) (cap := (φ k).cap - lo0) true hb hn.1 hn.2.1 (by omega) (by omega) (by omega) hvs (by cases lo <;> rfl) (by cases hi <;> rfl) (by cases mx <;> rfl)
  rw [hmx] at hbr
  simp only [Bool.false_eq_true, if_false] at hbr
  have hrun := slc_run (P := P) (w := w) ho hu hx (by omega) hbr
  refine wp_value hR hrun ?_ hk
  simp only [RA, hkk]
  refine ⟨by omega, _, by rw [Nat.sub_sub], by omega, ?_⟩
  by_cases h0 : (φ k).cap - lo0 = l.toNat
  · left; omega
  · right
    rw [if_neg h0]
    have hA' := hA.resolve_left (by omega)
    subst hA'
    simp only [Option.map_some, addr_add, hS]
    rw [Nat.add_mul]
    simp only [Nat.add_assoc]

theorem sound_slc_str (hR : Rel P X σ a w φ G M) {t : TypeId} {x : Operand} {lo hi mx : Option Operand} (ho : o.op = .slice t x lo hi mx) (hu : P.underlying t = some .string) {s : ByteArray}
    (hmx : mx.isSome = false) (hx : RA P φ G M w σ.heap (.str s) (a.eval x)) {vs : List AV} (hvs : RAL P φ G M w σ.heap vs ((lo.map a.eval).toList ++ (hi.map a.eval).toList ++ (mx.map a.eval).toList)) {l h m : Int} (hb : bounds s.size lo.isSome hi.isSome mx.isSome vs = some (l, h, m))
    (hn : 0 ≤ l ∧ l ≤ h ∧ h ≤ s.size) (hk : Cont P X σ {} (.str (s.extract l.toNat h.toNat)) a o next) : o.wp P a w next Q := by
  simp only [RA] at hx
  have hmn : m = s.size := bounds_m (by rw [hmx] at hb; exact hb)
  have hmx' : mx = none := by cases mx with
    | none => rfl
    | some _ => simp at hmx
  subst hmx'
  obtain ⟨hbr, hm1, hm2⟩ := bounds_run (P := P) (w := w) (cap := s.size) false hb hn.1 hn.2.1 (by omega) (by omega) (Nat.le_refl _) hvs (by cases lo <;> rfl) (by cases hi <;> rfl) rfl
  refine wp_value hR (u := .string (s.extract l.toNat h.toNat)) ?_ (by simp only [RA]) hk
  simp only [Option.map_none] at hbr
  simp only [execOp, ho, Instr.sliceAt, Instr.slice, Sem.run_bind, underlying, run_program, Result.andThen_ok, hu, Sem.run_pure, hx, Option.map_none, Option.isSome_none, Bool.false_eq_true, if_false, hbr]
end
end Go.AM

set_option linter.unusedSimpArgs false
namespace Go.AM
open Go.RowKit
section
variable {P : Program} {TT : TyTab} {N : Nat} {rowAt : List Nat} {X : Ctx} {σ : St} {a : Act} {w : World} {φ : Nat → Loc} {G M : Nat → Prop} {o : Oper} {next : Act → World → Prop} {Q : Exit → Act → World → Prop}

theorem RT.one {t : Ty} : ∀ {x : den t} {us : List Value}, RT P t G w x us → ∀ u ∈ us, u.oneCell' = true := by
  induction t with
  | int k => intro x us h; simp only [RT] at h; subst h; simp [Value.oneCell']
  | bool => intro x us h; simp only [RT] at h; subst h; simp [Value.oneCell']
  | str => intro x us h; simp only [RT] at h; subst h; simp [Value.oneCell']
  | list t _ => intro x us h; simp only [RT] at h; obtain ⟨A, c, rfl, _⟩ := h; simp [Value.oneCell']
  | olist t _ => intro x us h; simp only [RT] at h; obtain ⟨A, c, rfl, _⟩ := h; simp [Value.oneCell']
  | flist t _ => intro x us h; simp only [RT] at h; obtain ⟨A, c, rfl, _⟩ := h; simp [Value.oneCell']
  | unit => intro x us h; simp only [RT] at h; subst h; simp
  | pair a b iha ihb =>
    intro x us h
    simp only [RT] at h
    obtain ⟨v1, v2, rfl, h1, h2⟩ := h
    intro u hu
    exact (List.mem_append.1 hu).elim (iha h1 u) (ihb h2 u)
  | fn a r _ _ => intro x us h; simp only [RT] at h; obtain ⟨f, c, wd, rfl, _⟩ := h; simp [Value.oneCell']
  | ref t _ => intro x us h; simp only [RT] at h; obtain ⟨ad, rfl, _⟩ := h; simp [Value.oneCell']

/-- The elements of a slice, cell by cell. -/
structure Els (P : Program) (G : Nat → Prop) (w : World) (t : Ty) (xs : List (den t)) (b off : Nat) (cs : List Value) : Prop where
  len : cs.length = xs.length * size t
  cell : ∀ j u, cs[j]? = some u → w.cell? ⟨b, off + j, none⟩ = some u
  els : ∀ i, (h : i < xs.length) → RT P t G w xs[i] ((cs.drop (i * size t)).take (size t))

theorem Els.one {t : Ty} {xs : List (den t)} {b off : Nat} {cs : List Value} (hz : 0 < size t) (h : Els P G w t xs b off cs) : ∀ u ∈ cs, u.oneCell' = true := by
  intro u hu
  obtain ⟨j, hj, rfl⟩ := List.mem_iff_getElem.1 hu
  have hlt : j / size t < xs.length := by
    rw [Nat.div_lt_iff_lt_mul hz, ← h.len]; exact hj
  refine RT.one (h.els (j / size t) hlt) _ ?_
  refine List.mem_iff_getElem.2 ⟨j % size t, ?_, ?_⟩
  · simp only [List.length_take, List.length_drop]
    have h1 := Nat.mod_lt j hz
    have h2 := Nat.div_add_mod j (size t)
    rw [Nat.mul_comm] at h2
    omega
  · simp only [List.getElem_take, List.getElem_drop]
    congr 1
    have h2 := Nat.div_add_mod j (size t)
    rw [Nat.mul_comm] at h2
    exact h2

theorem slOf_els {H : Heap} (hH : RelH P φ G M w H) {t : Ty} {v : AV} {u : Value} {ys : List (den t)} (hv : RA P φ G M w H v u) (h : slOf H t v = some ys) :
    plain t = true ∧ 0 < size t ∧ ∃ A c, u = .slice A ys.length c ∧ (ys = [] ∨ ∃ b off cs, A = some ⟨b, off, none⟩ ∧ Els P G w t ys b off cs) := by
  have hH' := hH
  obtain ⟨hp, hz, hrt⟩ := slOf_sound (G1 := fun b => b < w.heap.size) hH hH.bnd (.inl hH.mnd) hv h
  refine ⟨hp, hz, ?_⟩
  -- the cells as they lie
  have mk : ∀ (b off : Nat), (∀ i, (hi : i < ys.length) → ∃ cs, cs.length = size t ∧ RT P t G w ys[i] cs ∧ ∀ j u, cs[j]? = some u → w.cell? ⟨b, off + (i * size t + j), none⟩ = some u) →
      Els P G w t ys b off ((List.range (ys.length * size t)).map fun j => (w.cell? ⟨b, off + j, none⟩).getD undef) := by
    intro b off hc
    refine ⟨by simp, fun j u hu => ?_, fun i hi => ?_⟩
    · have hj : j < ys.length * size t := by have := (List.getElem?_eq_some_iff.1 hu).1; simpa using this
      have hlt : j / size t < ys.length := by rw [Nat.div_lt_iff_lt_mul hz]; exact hj
      obtain ⟨cs, h1, h2, h3⟩ := hc _ hlt
      have hm := Nat.mod_lt j hz
      have hd := Nat.div_add_mod j (size t)
      rw [Nat.mul_comm] at hd
      have h4 := h3 (j % size t) cs[j % size t] (List.getElem?_eq_getElem (by omega))
      rw [hd] at h4
      simp only [List.getElem?_map, List.getElem?_range hj, Option.map_some, h4, Option.getD_some, Option.some.injEq] at hu
      rw [h4, hu]
    · obtain ⟨cs, h1, h2, h3⟩ := hc i hi
      have : (((List.range (ys.length * size t)).map fun j => (w.cell? ⟨b, off + j, none⟩).getD undef).drop (i * size t)).take (size t) = cs := by
        apply List.ext_getElem?
        intro j
        rw [List.getElem?_take]
        have hmul : (i + 1) * size t ≤ ys.length * size t := Nat.mul_le_mul_right _ hi
        rw [Nat.add_mul] at hmul
        split
        · rename_i hj
          have h4 := h3 j cs[j] (List.getElem?_eq_getElem (by omega))
          rw [List.getElem?_drop, List.getElem?_map, List.getElem?_range (by omega)]
          simp only [Option.map_some, h4, Option.getD_some]
          exact (List.getElem?_eq_getElem (by omega)).symm
        · rw [List.getElem?_eq_none (by omega)]
      rw [this]; exact h2
  cases v with
  | sl t' xs full =>
    simp only [slOf] at h
    obtain ⟨rfl, rfl⟩ := castL?_eq h
    simp only [RA, RT] at hv
    obtain ⟨_, _, ⟨A, c, hu, _, hne⟩, _⟩ := hv
    simp only [List.cons.injEq, and_true] at hu
    refine ⟨A, c, hu, hne.imp id ?_⟩
    rintro ⟨ad, rfl, hs, _, hc⟩
    obtain ⟨b, off, sp⟩ := ad
    simp only at hs hc
    subst hs
    exact ⟨b, off, _, rfl, mk b off hc⟩
  | own k lo len =>
    simp only [slOf] at h
    split at h
    · rename_i t' xs f hk
      obtain ⟨rfl, rfl⟩ := castL?_eq h
      simp only [RA, hk] at hv
      obtain ⟨hlen, A, rfl, hcap, hA⟩ := hv
      have ho := hH.obj k _ hk
      simp only [RObj] at ho
      obtain ⟨⟨_, _, hrow⟩, _⟩ := ho
      have hl : ((xs.drop lo).take len).length = len := by simp; omega
      refine ⟨A, _, by rw [hl], ?_⟩
      rcases Nat.eq_zero_or_pos len with h0 | h0
      · left; subst h0; simp
      · right
        rcases hrow with ⟨hc0, rfl⟩ | ⟨c, e, hc, _, hblk, hfit, hle, hcells⟩
        · simp at hlen; omega
        · have hA' := hA.resolve_left (by omega)
          refine ⟨_, _, _, hA', mk (φ k).blk ((φ k).base + lo * size t') fun i hi => ?_⟩
          rw [hl] at hi
          refine ⟨_, (hcells (lo + i) (by omega)).len, by simpa [List.getElem_take, List.getElem_drop] using hcells (lo + i) (by omega), fun j u hu => ?_⟩
          have hj : j < size t' := by
            have := (List.getElem?_eq_some_iff.1 hu).1
            simp at this
            omega
          rw [List.getElem?_take_of_lt hj, List.getElem?_drop] at hu
          simp only [World.cell?, hblk, Option.isSome_none, Bool.false_eq_true, if_false]
          rw [← Array.getElem?_toList, ← hu]
          congr 1
          rw [Nat.add_mul]; omega
    · cases h
  | _ => simp [slOf] at h

theorem els_cell {t : Ty} {ys : List (den t)} {b off : Nat} {cs : List Value} (h : Els P G w t ys b off cs) : ∀ j u, cs[j]? = some u → w.cell? ((⟨b, off, none⟩ : Addr).add j) = some u := by
  intro j u hu; rw [addr_add]; exact h.cell j u hu

/-- Two rows of elements, one behind the other, as they lie in a new block. -/
theorem els_join {t : Ty} {xs ys : List (den t)} {c1 c2 rest : List Value} (h1 : c1.length = xs.length * size t) (e1 : ∀ i, (h : i < xs.length) → RT P t G w xs[i] ((c1.drop (i * size t)).take (size t)))
    (e2 : ∀ i, (h : i < ys.length) → RT P t G w ys[i] ((c2.drop (i * size t)).take (size t))) (h2 : c2.length = ys.length * size t) :
    ∀ i, (h : i < (xs ++ ys).length) → RT P t G w (xs ++ ys)[i] (((c1 ++ c2 ++ rest).drop (i * size t)).take (size t)) := by
  intro i hi
  have hmul : ∀ n m : Nat, n < m → n * size t + size t ≤ m * size t := fun n m hnm => by
    have := Nat.mul_le_mul_right (size t) (show n + 1 ≤ m from hnm); rw [Nat.add_mul] at this; omega
  by_cases hx : i < xs.length
  · have := hmul _ _ hx
    rw [List.getElem_append_left hx, List.append_assoc, List.drop_append_of_le_length (by omega), List.take_append_of_le_length (by simp; omega)]
    exact e1 i hx
  · have hy : i - xs.length < ys.length := by simp at hi; omega
    have := hmul _ _ hy
    rw [List.getElem_append_right (by omega)]
    have hsub : i * size t - c1.length = (i - xs.length) * size t := by rw [h1, Nat.sub_mul]
    have hle : c1.length ≤ i * size t := by rw [h1]; exact Nat.mul_le_mul_right _ (by omega)
    rw [List.append_assoc, List.drop_append, List.drop_of_length_le (l := c1) hle, List.nil_append, hsub, List.drop_append_of_le_length (by omega), List.take_append_of_le_length (by simp; omega)]
    exact e2 _ hy

structure AppFacts (P : Program) (t e : TypeId) (S bytes : Nat) : Prop where
  hu : P.underlying t = some (.slice e)
  hS : P.cellsOf e = S
  hb : P.bytesOf e = bytes
  h0 : 0 < S
  hz : hasZero P e = true
  zl : (zeroOf P e).length = S

theorem AppFacts.info {t e : TypeId} {S bytes : Nat} (F : AppFacts P t e S bytes) : ∃ i z, P.info? e = some i ∧ i.zero = some z ∧ i.size = S ∧ i.bytes = bytes ∧ z.cells.size = S := by
  have hz := F.hz
  have zl := F.zl
  have hS := F.hS
  have hb := F.hb
  unfold hasZero at hz
  unfold zeroOf at zl
  unfold Program.cellsOf at hS
  unfold Program.bytesOf at hb
  cases hi : P.info? e with
  | none => simp [hi] at hz
  | some i =>
    simp only [hi] at hz zl
    cases hzz : i.zero with
    | none => simp [hzz] at hz
    | some z =>
      simp only [hzz] at zl
      exact ⟨i, z, rfl, hzz, by simpa [hi] using hS, by simpa [hi] using hb, by simpa using zl⟩

theorem app_exec {c : Call} (ho : o.op = .call c) (hc : c.callee = .builtin .append) {t : TypeId} {x y : Operand} (hx : c.args.toList = [x, y]) (ht : c.argTypes.toList = [t, t]) {v : Value} {w' : World}
    (hr : (Builtin.append_ #[t, t] o.type #[a.eval x, a.eval y]).run P w = .ok v w') : (execOp a.eval o).run P w = .ok (.value v) w' := by
  obtain ⟨callee, args, ats⟩ := c
  simp only at hc hx ht
  subst hc
  have ea : args = #[x, y] := Array.toList_inj.1 (by simpa using hx)
  have et : ats = #[t, t] := Array.toList_inj.1 (by simpa using ht)
  subst ea; subst et
  simp [execOp, ho, resolve, invoke, builtin, hr]

/-- It grows: a new block. -/
theorem append_grows {t e ty : TypeId} {S bytes : Nat} (F : AppFacts P t e S bytes) {s : Ty} (hs : size s = S) {xs ys : List (den s)} {A : Option Addr} {cap c b2 off2 : Nat} {c2 : List Value} (hA : xs ≠ [] → ∃ b off, A = some ⟨b, off, none⟩ ∧ ∃ c1, Els P G w s xs b off c1)
    (hcap : cap < xs.length + ys.length) (hnil : A = none → cap = 0) (h2 : Els P G w s ys b2 off2 c2) (hy : ys ≠ []) (hl : xs.length + ys.length ≤ 140737488355328) (hb : (xs.length + ys.length) * bytes ≤ 140737488355328) :
    ∃ w' cells cap', (Builtin.append_ #[t, t] ty #[.slice A xs.length cap, .slice (some ⟨b2, off2, none⟩) ys.length c]).run P w = .ok (.slice (some ⟨w.heap.size, 0, none⟩) (xs.length + ys.length) cap') w' ∧
      NewB w w' (.cells cells e) ∧ cap' ≤ 9223372036854775807 ∧ cap' * S ≤ cells.size ∧ (xs ++ ys).length ≤ cap' ∧ ∀ i, (hi : i < (xs ++ ys).length) → RT P s G w (xs ++ ys)[i] ((cells.toList.drop (i * size s)).take (size s)) := by
  obtain ⟨i, z, hi, hz, hsz, hby, hzc⟩ := F.info
  have hyl : 0 < ys.length := List.length_pos_iff.2 hy
  have hc2 : c2.length = ys.length * i.size := by rw [h2.len, hs, hsz]
  have hge := grownCap_ge w (xs.length + ys.length) cap e
  have hgm := grownCap_le_maxLen w (xs.length + ys.length) cap e (by simp only [maxLen]; omega)
  have grow : ∀ (b off : Nat) (c1 : List Value), A = some ⟨b, off, none⟩ → c1.length = xs.length * S → (∀ j u, c1[j]? = some u → w.cell? ⟨b, off + j, none⟩ = some u) → (∀ i, (h : i < xs.length) → RT P s G w xs[i] ((c1.drop (i * size s)).take (size s))) →
      ∃ w' cells cap', (Builtin.append_ #[t, t] ty #[.slice A xs.length cap, .slice (some ⟨b2, off2, none⟩) ys.length c]).run P w = .ok (.slice (some ⟨w.heap.size, 0, none⟩) (xs.length + ys.length) cap') w' ∧
        NewB w w' (.cells cells e) ∧ cap' ≤ 9223372036854775807 ∧ cap' * S ≤ cells.size ∧ (xs ++ ys).length ≤ cap' ∧ ∀ i, (hi : i < (xs ++ ys).length) → RT P s G w (xs ++ ys)[i] ((cells.toList.drop (i * size s)).take (size s)) := by
    intro b off c1 hA hl1 hcell hels
    subst hA
    have hrun := run_append_grow (P := P) w t ty e i z F.hu hi hz ⟨b, off, none⟩ xs.length cap c1 (by rw [hl1, hsz]) (fun j u hu => by rw [addr_add]; exact hcell j u hu) ⟨b2, off2, none⟩ ys.length c c2 hc2 (els_cell h2) hcap (by omega) (by rw [hby]; exact growslice_fits hcap hb)
    refine ⟨_, _, _, hrun, (NewB.alloc w.drew _).drew, by simpa [maxLen] using hgm, ?_, by simpa using hge, ?_⟩
    · simp only [Array.size_append, List.size_toArray, size_zeroCells, hzc, hl1, hc2, hsz]
      obtain ⟨k, hk⟩ := Nat.exists_eq_add_of_le hge
      rw [hk, Nat.add_sub_cancel_left, Nat.add_mul, Nat.add_mul]
      omega
    · intro j hj
      simp only [Array.toList_append]
      exact els_join (by rw [hl1, hs]) hels h2.els h2.len j hj
  by_cases hx : xs = []
  · subst hx
    cases A with
    | none =>
      have hc0 := hnil rfl
      subst hc0
      have hrun := run_append_nil (P := P) w t ty e i z F.hu hi hz ⟨b2, off2, none⟩ ys.length c c2 hc2 (els_cell h2) hyl (by omega) (by simp at hb; rw [hby]; omega)
      have hge' := grownCap_ge w ys.length 0 e
      have hgm' := grownCap_le_maxLen w ys.length 0 e (by simp only [maxLen]; simp at hl; omega)
      refine ⟨_, _, _, by simpa using hrun, (NewB.alloc w.drew _).drew, by simpa [maxLen] using hgm', ?_, by simpa using hge', ?_⟩
      · simp only [Array.size_append, List.size_toArray, size_zeroCells, hzc, hc2, hsz]
        obtain ⟨k, hk⟩ := Nat.exists_eq_add_of_le hge'
        rw [hk, Nat.add_sub_cancel_left, Nat.add_mul]
        omega
      · intro j hj
        simp only [Array.toList_append]
        have := els_join (P := P) (G := G) (w := w) (xs := ([] : List (den s))) (ys := ys) (c1 := []) (c2 := c2) (rest := (Builtin.zeroCells z.cells (grownCap w ys.length 0 e - ys.length)).toList) (by simp) (fun i h => by simp at h) h2.els h2.len j hj
        simpa using this
    | some ad =>
      by_cases hsp : ad.spot = none
      · obtain ⟨b, off, sp⟩ := ad
        simp only at hsp
        subst hsp
        exact grow b off [] rfl (by simp) (fun j u hu => by simp at hu) (fun i h => by simp at h)
      · -- an address with a spot: no cells are asked of it
        have hrun := run_append_grow (P := P) w t ty e i z F.hu hi hz ad 0 cap [] (by simp) (fun j u hu => by simp at hu) ⟨b2, off2, none⟩ ys.length c c2 hc2 (els_cell h2) (by simpa using hcap) (by omega) (by rw [hby]; exact growslice_fits (by simpa using hcap) (by simpa using hb))
        simp only [List.length_nil, Nat.zero_add] at hge hgm hrun
        refine ⟨_, _, _, by simpa using hrun, (NewB.alloc w.drew _).drew, by simpa [maxLen] using hgm, ?_, by simpa using hge, ?_⟩
        · simp only [Array.size_append, List.size_toArray, size_zeroCells, hzc, hc2, hsz, List.length_nil]
          obtain ⟨k, hk⟩ := Nat.exists_eq_add_of_le hge
          rw [hk, Nat.add_sub_cancel_left, Nat.add_mul]
          omega
        · intro j hj
          simp only [Array.toList_append]
          have := els_join (P := P) (G := G) (w := w) (xs := ([] : List (den s))) (ys := ys) (c1 := []) (c2 := c2) (rest := (Builtin.zeroCells z.cells (grownCap w ys.length cap e - ys.length)).toList) (by simp) (fun i h => by simp at h) h2.els h2.len j hj
          simpa using this
  · obtain ⟨b, off, hAe, c1, h1⟩ := hA hx
    exact grow b off c1 hAe (by rw [h1.len, hs]) h1.cell h1.els
end
end Go.AM

set_option linter.unusedSimpArgs false
namespace Go.AM
open Go.RowKit
section
variable {P : Program} {TT : TyTab} {N : Nat} {rowAt : List Nat} {X : Ctx} {σ : St} {a : Act} {w : World} {φ : Nat → Loc} {G M : Nat → Prop} {o : Oper} {next : Act → World → Prop} {Q : Exit → Act → World → Prop}

/-- append onto what can't be written: nil, or a slice whose capacity is its length. -/
theorem sound_app_full (h : Rel P X σ a w φ G M) {c : Call} (ho : o.op = .call c) (hc : c.callee = .builtin .append) {t e : TypeId} {x y : Operand} (hx : c.args.toList = [x, y]) (ht : c.argTypes.toList = [t, t]) {S bytes : Nat} (F : AppFacts P t e S bytes)
    {ty : Ty} {xs ys : List (den ty)} (hS : size ty = S) {v : AV} (hpx : RA P φ G M w σ.heap (.sl ty xs true) (a.eval x)) (hpy : RA P φ G M w σ.heap v (a.eval y)) (hys : slOf σ.heap ty v = some ys) {d : Nat} (hd : hget σ.heap d = none)
    (hn : (xs = [] ∨ ys ≠ []) ∧ xs.length + ys.length ≤ 140737488355328 ∧ (xs.length + ys.length) * bytes ≤ 140737488355328)
    (hk : Cont P X σ { put := [(d, .row ty (xs ++ ys) false)] } (.own d 0 (xs.length + ys.length)) a o next) : o.wp P a w next Q := by
  obtain ⟨hpl, hz, A2, c2, hy, hels⟩ := slOf_els h.heap hpy hys
  have hxe : ∃ A, a.eval x = .slice A xs.length xs.length ∧ (xs = [] ∨ ∃ b off cs, A = some ⟨b, off, none⟩ ∧ Els P G w ty xs b off cs) := by
    obtain ⟨_, _, A, cc, hx1, he1⟩ := slOf_els h.heap hpx (t := ty) (ys := xs) (by simp [slOf, castL?])
    simp only [RA] at hpx
    obtain ⟨A', hA'⟩ := hpx.2.2.2 trivial
    rw [hx1] at hA'
    simp only [Value.slice.injEq] at hA'
    exact ⟨A, by rw [hx1, hA'.2.2], he1⟩
  obtain ⟨A, hxv, hxels⟩ := hxe
  by_cases hyn : ys = []
  · have hxn : xs = [] := hn.1.resolve_right (fun h => h hyn)
    subst hyn; subst hxn
    have hrun : (Builtin.append_ #[t, t] o.type #[a.eval x, a.eval y]).run P w = .ok (.slice A 0 0) w := by
      obtain ⟨i, z, hi, hz, hsz, hby, hzc⟩ := F.info
      rw [hxv, hy]
      have hf : (Builtin.firstCells i.size 0 (.slice A2 0 c2)).run P w = .ok #[] w := by
        cases A2 with
        | none => exact run_firstCells_none w _ _ _ _
        | some ad => simpa using run_firstCells_some (P := P) w i.size 0 ad 0 c2 [] (by simp) (fun j u hu => by simp at hu)
      cases A with
      | none => simp [Builtin.append_, run_underlying F.hu, Go.sizeOf, typeInfo, hi, Builtin.lenOf, hf]
      | some ad => simp [Builtin.append_, run_underlying F.hu, Go.sizeOf, typeInfo, hi, Builtin.lenOf, hf, storeCells]
    unfold Oper.wp
    rw [app_exec ho hc hx ht hrun]
    refine hk w _ _ _ _ (h.newNo d ty false hpl hz hd) ?_
    simp only [RA, eff_put1, List.nil_append, hget_hput_self, setφ_self]
    exact ⟨by simp, A, by simp, by simp, .inl (by simp)⟩
  · obtain ⟨b2, off2, cs2, rfl, h2⟩ := hels.resolve_left hyn
    obtain ⟨w', cells, cap', hrun, hnb, hc63, hcs, hlc, hels'⟩ := append_grows (ty := o.type) F hS (xs := xs) (A := A) (cap := xs.length) (c := c2) (fun hx => by
      obtain ⟨b, off, cs, hA, he⟩ := hxels.resolve_left hx; exact ⟨b, off, hA, cs, he⟩) (by have := List.length_pos_iff.2 hyn; omega) (fun hA => by
      rcases hxels with rfl | ⟨b, off, cs, hA', _⟩
      · rfl
      · rw [hA] at hA'; cases hA') h2 hyn hn.2.1 hn.2.2
    unfold Oper.wp
    rw [app_exec ho hc hx ht (by rw [hxv, hy]; exact hrun)]
    obtain ⟨φ', G', M', hR, hφ⟩ := row_cont h (t := ty) (xs := xs ++ ys) (cap := cap') hd hnb hpl hz hc63 (by rw [hS]; exact hcs) hlc hels'
    refine hk w' _ _ _ _ hR ?_
    exact own_all hφ hlc _ (by simp)

theorem eff_del1 (σ : St) (k d : Nat) (ob : Obj) : σ.eff { frz := [], del := [k], put := [(d, ob)] } = ⟨killE k σ.env, hput (killH k (hdel σ.heap k)) d ob⟩ := rfl

/-- append onto a row of one's own. -/
theorem sound_app_own (h : Rel P X σ a w φ G M) {c : Call} (ho : o.op = .call c) (hc : c.callee = .builtin .append) {t e : TypeId} {x y : Operand} (hx : c.args.toList = [x, y]) (ht : c.argTypes.toList = [t, t]) {S bytes : Nat} (F : AppFacts P t e S bytes)
    {ty : Ty} {xs ys : List (den ty)} (hS : size ty = S) {k lo n : Nat} (hkk : hget σ.heap k = some (.row ty xs false)) {v : AV} (hpx : RA P φ G M w σ.heap (.own k lo n) (a.eval x)) (hpy : RA P φ G M w σ.heap v (a.eval y)) (hys : slOf σ.heap ty v = some ys) {d : Nat} (hd : k = d ∨ hget σ.heap d = none)
    (hn : n + ys.length ≤ 140737488355328 ∧ (n + ys.length) * bytes ≤ 140737488355328)
    (hk : Cont P X σ { frz := [], del := [k], put := [(d, .row ty ((xs.drop lo).take n ++ ys) false)] } (.own d 0 (n + ys.length)) a o next) : o.wp P a w next Q := by
  obtain ⟨hpl, hz, A2, c2, hy, hels⟩ := slOf_els h.heap hpy hys
  have hxe := slOf_els h.heap hpx (t := ty) (ys := (xs.drop lo).take n) (by simp [slOf, hkk, castL?])
  simp only [RA, hkk] at hpx
  obtain ⟨hle, A, hxv, hcap, hA⟩ := hpx
  have hl : ((xs.drop lo).take n).length = n := by simp; omega
  obtain ⟨_, _, A1, cc1, hx1, he1⟩ := hxe
  rw [hxv, hl] at hx1
  simp only [Value.slice.injEq] at hx1
  obtain ⟨rfl, _, rfl⟩ := hx1
  have hob := h.heap.obj k _ hkk
  simp only [RObj] at hob
  obtain ⟨⟨_, _, hrow⟩, hgm⟩ := hob
  have h1 := h.kill1 k
  have hdk : hget (killH k (hdel σ.heap k)) d = none := by
    by_cases e : d = k
    · subst e; rw [hget_killH, hget_hdel, if_pos rfl]; rfl
    · rw [hget_kill k σ.heap d e]
      rcases hd with rfl | hd
      · exact absurd rfl e
      · rw [hd]; rfl
  by_cases hroom : n + ys.length ≤ (φ k).cap - lo
  · by_cases hc0 : (φ k).cap - lo = 0
    · -- nothing at all
      have hn0 : n = 0 := by omega
      have hy0 : ys = [] := List.eq_nil_of_length_eq_zero (by omega)
      subst hn0; subst hy0
      have hrun : (Builtin.append_ #[t, t] o.type #[a.eval x, a.eval y]).run P w = .ok (.slice A 0 0) w := by
        obtain ⟨i, z, hi, hz, hsz, hby, hzc⟩ := F.info
        rw [hxv, hy, hc0]
        have hf : (Builtin.firstCells i.size 0 (.slice A2 0 c2)).run P w = .ok #[] w := by
          cases A2 with
          | none => exact run_firstCells_none w _ _ _ _
          | some ad => simpa using run_firstCells_some (P := P) w i.size 0 ad 0 c2 [] (by simp) (fun j u hu => by simp at hu)
        cases A with
        | none => simp [Builtin.append_, run_underlying F.hu, Go.sizeOf, typeInfo, hi, Builtin.lenOf, hf]
        | some ad => simp [Builtin.append_, run_underlying F.hu, Go.sizeOf, typeInfo, hi, Builtin.lenOf, hf, storeCells]
      unfold Oper.wp
      rw [app_exec ho hc hx ht hrun]
      refine hk w _ _ _ _ (h1.newNo d ty false hpl hz hdk) ?_
      simp only [RA, eff_del1, List.take_zero, List.nil_append, hget_hput_self, setφ_self]
      exact ⟨by simp, A, by simp, by simp, .inl (by simp)⟩
    · -- in place
      have hA' := hA.resolve_left hc0
      subst hA'
      rcases hrow with ⟨hc1, rfl⟩ | ⟨cl, et, hc1, hc63, hblk, hfit, hlx, hcells⟩
      · omega
      have hMk : M (φ k).blk := (hgm hc1).2 trivial
      -- the cells that come
      have hnews : ∃ news : List Value, news.length = ys.length * S ∧ (Builtin.firstCells S ys.length (.slice A2 ys.length c2)).run P w = .ok news.toArray w ∧ (∀ u ∈ news, u.oneCell' = true) ∧ ∀ i, (hi : i < ys.length) → RT P ty G w ys[i] ((news.drop (i * size ty)).take (size ty)) := by
        rcases hels with rfl | ⟨b2, off2, cs2, rfl, h2⟩
        · refine ⟨[], by simp, ?_, by simp, fun i hi => by simp at hi⟩
          cases A2 with
          | none => exact run_firstCells_none w _ _ _ _
          | some ad => simpa using run_firstCells_some (P := P) w S 0 ad 0 c2 [] (by simp) (fun j u hu => by simp at hu)
        · exact ⟨cs2, by rw [h2.len, hS], run_firstCells_some (P := P) w S ys.length _ _ _ cs2 (by rw [h2.len, hS]) (els_cell h2), h2.one (by omega), h2.els⟩
      obtain ⟨news, hnl, hfr, hone, hnels⟩ := hnews
      obtain ⟨i, z, hi, hzz, hsz, hby, hzc⟩ := F.info
      have hmul : lo * size ty + (n + ys.length) * size ty ≤ (φ k).cap * size ty := by rw [← Nat.add_mul]; exact Nat.mul_le_mul_right _ (by omega)
      rw [Nat.add_mul] at hmul
      have hfit2 : (φ k).base + lo * size ty + n * size ty + news.length ≤ cl.size := by rw [hnl, ← hS]; omega
      have hst := run_storeCells_at P (φ k).blk ((φ k).base + lo * size ty + n * size ty) et news 0 cl w hblk (by simpa using hfit2) hone
      simp only [Nat.add_zero] at hst
      have hrun : (Builtin.append_ #[t, t] o.type #[a.eval x, a.eval y]).run P w = .ok (.slice (some ⟨(φ k).blk, (φ k).base + lo * size ty, none⟩) (n + ys.length) ((φ k).cap - lo))
          (w.setRow (φ k).blk (cl.toList.take ((φ k).base + lo * size ty + n * size ty) ++ news ++ cl.toList.drop ((φ k).base + lo * size ty + n * size ty + news.length)).toArray) := by
        rw [hxv, hy]
        have hsS : i.size = size ty := by rw [hsz, hS]
        have hfr' : (Builtin.firstCells i.size ys.length (.slice A2 ys.length c2)).run P w = .ok news.toArray w := by rw [hsz]; exact hfr
        simp [Builtin.append_, run_underlying F.hu, Go.sizeOf, typeInfo, hi, Builtin.lenOf, hroom, hfr', addr_add, hsS]
        rw [hsS] at hfr'
        simp [hfr', hst]
      unfold Oper.wp
      rw [app_exec ho hc hx ht hrun]
      have hone2 := OneB.setRow w (φ k).blk (cl.toList.take ((φ k).base + lo * size ty + n * size ty) ++ news ++ cl.toList.drop ((φ k).base + lo * size ty + n * size ty + news.length)).toArray
      have hR := h1.newAt (φ k).blk hMk (fun j p hj hp => by
        have : ∃ p', hget σ.heap j = some p' ∧ p = killO k p' ∧ j ≠ k := by
          rw [hget_killH, hget_hdel] at hj
          split at hj
          · simp at hj
          · rename_i hne
            cases ho : hget σ.heap j with
            | none => simp [ho] at hj
            | some o' => simp [ho] at hj; exact ⟨o', rfl, hj.symm, hne⟩
        obtain ⟨p', hp1, rfl, hne⟩ := this
        exact h.heap.inj j k p' _ hp1 hkk hne (by cases p' <;> first | trivial | exact hp) hc1) hone2 d (.row ty ((xs.drop lo).take n ++ ys) false) ⟨(φ k).blk, (φ k).base + lo * size ty, (φ k).cap - lo⟩ hdk rfl (fun H' E => by
          simp only [RObj, setφ_self]
          refine ⟨⟨hpl, hz, .inr ⟨_, et, by show 0 < (φ k).cap - lo; omega, by show (φ k).cap - lo ≤ _; omega, setRow_new hblk, ?_, by simp [hl]; omega, fun j hj => ?_⟩⟩, fun _ => ⟨fun hf => (by cases hf), fun _ => hMk⟩⟩
          · simp only [List.size_toArray, List.length_append, List.length_take, List.length_drop, Array.length_toList]
            have : lo * size ty + ((φ k).cap - lo) * size ty ≤ (φ k).cap * size ty := by rw [← Nat.add_mul]; exact Nat.mul_le_mul_right _ (by omega)
            omega
          · refine RT.mono hpl ?_ E.g E.ag
            -- as if the two stood one behind the other
            have hj1 : ∀ i, (hi : i < ((xs.drop lo).take n).length) → RT P ty G w ((xs.drop lo).take n)[i] ((((cl.toList.drop ((φ k).base + lo * size ty)).take (n * size ty)).drop (i * size ty)).take (size ty)) := by
              intro i hi
              rw [hl] at hi
              have := hcells (lo + i) (by omega)
              have hm2 : i * size ty + size ty ≤ n * size ty := by
                have := Nat.mul_le_mul_right (size ty) (show i + 1 ≤ n from hi); rw [Nat.add_mul] at this; omega
              rw [List.drop_take, List.take_take, Nat.min_eq_left (by omega), List.drop_drop]
              rw [Nat.add_mul, ← Nat.add_assoc] at this
              simpa [List.getElem_take, List.getElem_drop] using this
            have := els_join (P := P) (G := G) (w := w) (t := ty) (xs := (xs.drop lo).take n) (ys := ys) (c1 := (cl.toList.drop ((φ k).base + lo * size ty)).take (n * size ty)) (c2 := news) (rest := cl.toList.drop ((φ k).base + lo * size ty + n * size ty + news.length))
              (by rw [hl]; simp; omega) hj1 hnels (by rw [hnl, hS]) j hj
            have e : (cl.toList.take ((φ k).base + lo * size ty + n * size ty) ++ news ++ cl.toList.drop ((φ k).base + lo * size ty + n * size ty + news.length)).drop ((φ k).base + lo * size ty) =
                (cl.toList.drop ((φ k).base + lo * size ty)).take (n * size ty) ++ news ++ cl.toList.drop ((φ k).base + lo * size ty + n * size ty + news.length) := by
              rw [List.append_assoc, List.drop_append_of_le_length (by simp; omega), List.drop_take, List.append_assoc]
              congr 2
              omega
            rw [← e, List.drop_drop] at this
            exact this)
      refine hk _ _ _ _ _ hR ?_
      simp only [RA, eff_del1, hget_hput_self, setφ_self]
      exact ⟨by simp [hl], _, rfl, by simpa using hroom, .inr (by simp)⟩
  · -- it grows
    have hyn : ys ≠ [] := fun e => by subst e; simp at hroom; omega
    obtain ⟨b2, off2, cs2, rfl, h2⟩ := hels.resolve_left hyn
    obtain ⟨w', cells, cap', hrun, hnb, hc63, hcs, hlc, hels'⟩ := append_grows (ty := o.type) F hS (xs := (xs.drop lo).take n) (A := A) (cap := (φ k).cap - lo) (c := c2) (fun hx => by
      obtain ⟨b, off, cs, hA, he⟩ := he1.resolve_left hx; exact ⟨b, off, hA, cs, he⟩) (by rw [hl]; omega) (fun hA' => by
      rcases hA with hA | hA
      · exact hA
      · rw [hA] at hA'; cases hA') h2 hyn (by rw [hl]; exact hn.1) (by rw [hl]; exact hn.2)
    rw [hl] at hrun
    unfold Oper.wp
    rw [app_exec ho hc hx ht (by rw [hxv, hy]; exact hrun)]
    obtain ⟨φ', G', M', hR, hφ⟩ := row_cont h1 (t := ty) (xs := (xs.drop lo).take n ++ ys) (cap := cap') hdk hnb hpl hz hc63 (by rw [hS]; exact hcs) hlc hels'
    refine hk w' _ _ _ _ hR ?_
    rw [eff_del1]
    exact own_all hφ hlc _ (by simp [hl])
end
end Go.AM

set_option linter.unusedSimpArgs false
namespace Go.AM
open Go.RowKit
section
variable {P : Program} {TT : TyTab} {N : Nat} {rowAt : List Nat} {X : Ctx} {σ : St} {a : Act} {w : World} {φ : Nat → Loc} {G M : Nat → Prop} {o : Oper} {next : Act → World → Prop} {Q : Exit → Act → World → Prop}

/-- Behind a call: blocks of one's own have come. -/
theorem Rel.callO {w' : World} (h : Rel P X σ a w φ G M) (hb : Below w.heap.size w w') (G' O : Nat → Prop) (hG : ∀ b, G' b → b < w'.heap.size ∧ (b < w.heap.size → G b)) (hO : ∀ b, O b → w.heap.size ≤ b ∧ b < w'.heap.size ∧ ¬ G' b) :
    Rel P X σ a w' φ (fun b => G b ∨ G' b) (fun b => M b ∨ O b) ∧ ∀ v u, RA P φ G M w σ.heap v u → RA P φ (fun b => G b ∨ G' b) (fun b => M b ∨ O b) w' σ.heap v u := by
  have E : Ext φ φ G (fun b => G b ∨ G' b) M (fun b => M b ∨ O b) w w' σ.heap σ.heap :=
    { g := fun b hb => .inl hb
      ag := fun b hg => hb.block b (h.heap.bnd b hg)
      keep := fun b hlt _ => hb.block b hlt
      keys := fun k o' hk => ⟨rfl, o', hk, by cases o' <;> simp [shape]⟩
      mt := fun b hlt hm => hm.elim id (fun ho => by have := (hO b ho).1; omega)
      size := hb.size }
  refine ⟨h.step E ⟨fun k o' hk => ?_, h.heap.inj, fun b hg => ?_, fun b hm => ?_, fun b hg hm => ?_⟩ hb.os hb.tape hb.output (fun b hg hlt => hg.elim .inl (fun hg => .inl ((hG b hg).2 hlt))), fun v u hv => RA.mono E v u hv⟩
  · exact (h.heap.obj k o' hk).mono E rfl (fun ha => hb.block _ (RObj.lt h.heap hk ha)) .inl
  · exact hg.elim (fun hg => Nat.lt_of_lt_of_le (h.heap.bnd b hg) hb.size) (fun hg => (hG b hg).1)
  · exact hm.elim (fun hm => Nat.lt_of_lt_of_le (h.heap.mnd b hm) hb.size) (fun ho => (hO b ho).2.1)
  · rcases hm with hm | hm
    · exact hg.elim (fun hg => h.heap.sep b hg hm) (fun hg => h.heap.sep b ((hG b hg).2 (h.heap.mnd b hm)) hm)
    · exact hg.elim (fun hg => by have := h.heap.bnd b hg; have := (hO b hm).1; omega) (fun hg => (hO b hm).2.2 hg)

/-- A row that a call handed over gets its name. -/
theorem Rel.adopt (h : Rel P X σ a w φ G M) {d : Nat} {t : Ty} {xs : List (den t)} {L : Loc} (hd : hget σ.heap d = none) (hr : RowAt P t G w xs L)
    (hM : 0 < L.cap → M L.blk ∧ ∀ k o, hget σ.heap k = some o → alloc φ k o → (φ k).blk ≠ L.blk) {v : Value} (hv : SlV L (AM.size t) 0 xs.length v) :
    ∃ φ', Rel P X ⟨σ.env, hput σ.heap d (.row t xs false)⟩ a w φ' G M ∧ RA P φ' G M w (hput σ.heap d (.row t xs false)) (.own d 0 xs.length) v ∧
      (∀ v u, RA P φ G M w σ.heap v u → RA P φ' G M w (hput σ.heap d (.row t xs false)) v u) ∧ ∀ k o, hget (hput σ.heap d (.row t xs false)) k = some o → alloc φ' k o → (k = d ∧ 0 < L.cap ∧ (φ' k).blk = L.blk) ∨ (k ≠ d ∧ hget σ.heap k = some o ∧ alloc φ k o ∧ (φ' k).blk = (φ k).blk) := by
  have keys : ∀ L', ∀ k o', hget σ.heap k = some o' → setφ φ d L' k = φ k ∧ ∃ o'', hget (hput σ.heap d (.row t xs false)) k = some o'' ∧ shape o' o'' := by
    intro L' k o' hk
    have hne : k ≠ d := fun e => by rw [e, hd] at hk; cases hk
    exact ⟨setφ_ne φ L' hne, o', by rw [hget_hput_ne _ _ _ _ hne]; exact hk, by cases o' <;> simp [shape]⟩
  have E : ∀ L', Ext φ (setφ φ d L') G G M M w w σ.heap (hput σ.heap d (.row t xs false)) := fun L' =>
    { g := fun b hb => hb, ag := fun _ _ => rfl, keep := fun _ _ _ => rfl, keys := keys L', mt := fun _ _ hm => hm, size := Nat.le_refl _ }
  have look : ∀ L' : Loc, ∀ k o, hget (hput σ.heap d (.row t xs false)) k = some o → alloc (setφ φ d L') k o → (k = d ∧ 0 < L'.cap ∧ (setφ φ d L' k).blk = L'.blk) ∨ (k ≠ d ∧ hget σ.heap k = some o ∧ alloc φ k o ∧ (setφ φ d L' k).blk = (φ k).blk) := by
    intro L' k o hk ha
    by_cases e : k = d
    · subst e
      rw [hget_hput_self] at hk; cases hk
      exact .inl ⟨rfl, by simpa [alloc, setφ_self] using ha, by rw [setφ_self]⟩
    · rw [hget_hput_ne _ _ _ _ e] at hk
      refine .inr ⟨e, hk, ?_, by rw [setφ_ne φ _ e]⟩
      cases o <;> simp_all [alloc, setφ]
  by_cases hc : 0 < L.cap
  · obtain ⟨hm, hno⟩ := hM hc
    refine ⟨setφ φ d L, h.newAt L.blk hm hno (OneB.refl w _) d _ L hd rfl (fun H' E' => ?_), ?_, fun v u hv => RA.mono (E L) v u hv, fun k o hk ha => look L k o hk ha⟩
    · simp only [RObj, setφ_self]
      exact ⟨hr, fun _ => ⟨fun hf => (by cases hf), fun _ => hm⟩⟩
    · simp only [RA, hget_hput_self, setφ_self]
      exact ⟨by simp, hv⟩
  · obtain ⟨hpl, hz, hrow⟩ := hr
    have hx : xs = [] := by
      rcases hrow with ⟨_, hx⟩ | ⟨c, e, hc', _⟩
      · exact hx
      · exact absurd hc' hc
    subst hx
    refine ⟨setφ φ d ⟨0, 0, 0⟩, h.newNo d t false hpl hz hd, ?_, fun v u hv => RA.mono (E _) v u hv, fun k o hk ha => ?_⟩
    · simp only [RA, hget_hput_self, setφ_self]
      obtain ⟨A, rfl, hle, hA⟩ := hv
      exact ⟨by simp, A, by simp; omega, by simp, .inl (by simp)⟩
    · rcases look _ k o hk ha with ⟨rfl, h0, _⟩ | h2
      · simp at h0
      · exact .inr h2

theorem go_key {r : Ty} : ∀ {k : Nat} {y : den r}, ∀ p ∈ (ofRes.go k r y).2, k ≤ p.1 := by
  induction r with
  | pair t b _ ih =>
    intro k y p hp
    cases t <;> simp only [ofRes.go] at hp <;> first
      | (rcases List.mem_cons.1 hp with rfl | hp
         · exact Nat.le_refl _
         · have := ih p hp; omega)
      | (have := ih p hp; omega)
  | _ => intro k y p hp; simp [ofRes.go] at hp

theorem hasAny_cons {H : Heap} {p : Nat × Obj} {ps : List (Nat × Obj)} (h : hasAny H (p :: ps) = false) : hget H p.1 = none ∧ hasAny H ps = false := by
  obtain ⟨k, o⟩ := p
  simp only [hasAny, Bool.or_eq_false_iff] at h
  exact ⟨by simpa using h.1, h.2⟩
theorem hasAny_hput {H : Heap} {k : Nat} {o : Obj} : ∀ {ps : List (Nat × Obj)}, hasAny H ps = false → (∀ p ∈ ps, p.1 ≠ k) → hasAny (hput H k o) ps = false := by
  intro ps
  induction ps with
  | nil => intro _ _; rfl
  | cons p ps ih =>
    intro h hk
    obtain ⟨h1, h2⟩ := hasAny_cons h
    obtain ⟨j, oj⟩ := p
    simp only [hasAny, Bool.or_eq_false_iff]
    exact ⟨by rw [hget_hput_ne _ _ _ _ (hk (j, oj) (by simp))]; simpa using h1, ih h2 (fun p hp => hk p (by simp [hp]))⟩

theorem RVL.plainV {t : Ty} {G : Nat → Prop} {w : World} {x : den t} {v : Value} {Ls : List Loc} (hp : ∀ s, t ≠ .olist s) (h : RVL P t G w x v Ls) : Ls = [] ∧ RV P t G w x v := by
  cases t with
  | olist s => exact absurd rfl (hp s)
  | _ => simpa only [RVL] using h

/-- What is asked of the places that come. -/
def Free (σ : St) (φ : Nat → Loc) (M : Nat → Prop) (L : Loc) : Prop := 0 < L.cap → M L.blk ∧ ∀ k o, hget σ.heap k = some o → alloc φ k o → (φ k).blk ≠ L.blk

theorem go_sound {r : Ty} : ∀ {σ : St} {φ : Nat → Loc} {k : Nat} {y : den r} {vs : List Value} {Ls : List Loc}, Rel P X σ a w φ G M → okRes r = true → hasAny σ.heap (ofRes.go k r y).2 = false → ROs P r G w y vs Ls →
    (∀ L ∈ Ls, Free σ φ M L) → (Ls.Pairwise fun a b => 0 < a.cap → 0 < b.cap → a.blk ≠ b.blk) →
    ∃ φ', Rel P X ⟨σ.env, putAll σ.heap (ofRes.go k r y).2⟩ a w φ' G M ∧ RAL P φ' G M w (putAll σ.heap (ofRes.go k r y).2) (ofRes.go k r y).1 vs ∧
      ∀ v u, RA P φ G M w σ.heap v u → RA P φ' G M w (putAll σ.heap (ofRes.go k r y).2) v u := by
  induction r with
  | pair t b _ ih =>
    intro σ φ k y vs Ls h hok hany hros hfree hpw
    simp only [ROs] at hros
    obtain ⟨v, vs', L1, L2, rfl, rfl, hv, hros⟩ := hros
    by_cases ho : ∃ s, t = .olist s
    · obtain ⟨s, rfl⟩ := ho
      simp only [RVL] at hv
      obtain ⟨L, rfl, hsl, hrow⟩ := hv
      simp only [okRes, Bool.and_eq_true] at hok
      simp only [ofRes.go] at hany ⊢
      obtain ⟨hk, hany⟩ := hasAny_cons hany
      obtain ⟨φ1, hR1, hra1, hmono1, hlook⟩ := h.adopt (d := k) hk hrow (hfree L (by simp)) hsl
      have hany1 : hasAny (hput σ.heap k (.row s y.1 false)) (ofRes.go (k + 1) b y.2).2 = false := hasAny_hput hany (fun p hp => by have := go_key p hp; omega)
      obtain ⟨φ2, hR2, hral2, hmono2⟩ := ih (σ := ⟨σ.env, hput σ.heap k (.row s y.1 false)⟩) hR1 hok.2 hany1 hros (fun L' hL' hc => by
        obtain ⟨hm, hno⟩ := hfree L' (by simp [hL']) hc
        refine ⟨hm, fun j oj hj ha => ?_⟩
        rcases hlook j oj hj ha with ⟨rfl, hc1, hb⟩ | ⟨_, hj1, ha1, hb⟩
        · rw [hb]
          exact (List.pairwise_append.1 hpw).2.2 L (by simp) L' hL' hc1 hc
        · rw [hb]; exact hno j oj hj1 ha1) (List.pairwise_append.1 hpw).2.1
      simp only [putAll]
      refine ⟨φ2, hR2, ?_, fun v u hvu => hmono2 v u (hmono1 v u hvu)⟩
      simp only [RAL]
      exact ⟨v, vs', rfl, hmono2 _ _ hra1, hral2⟩
    · have hno : ∀ s, t ≠ .olist s := fun s e => ho ⟨s, e⟩
      obtain ⟨hL0, hv'⟩ := RVL.plainV hno hv
      subst hL0
      have hgo : ofRes.go k (.pair t b) y = (ofV t y.1 :: (ofRes.go (k + 1) b y.2).1, (ofRes.go (k + 1) b y.2).2) := by
        cases t with
        | olist s => exact absurd rfl (hno s)
        | _ => rfl
      have hok' : plain t = true ∧ okRes b = true := by simpa only [okRes, Bool.and_eq_true] using hok
      rw [hgo] at hany ⊢
      simp only [List.nil_append] at hfree hpw
      obtain ⟨φ2, hR2, hral2, hmono2⟩ := ih h hok'.2 hany hros hfree hpw
      refine ⟨φ2, hR2, ?_, hmono2⟩
      simp only [RAL]
      exact ⟨v, vs', rfl, hmono2 _ _ (RV.ra hok'.1 hv'), hral2⟩
  | unit =>
    intro σ φ k y vs Ls h _ _ hros _ _
    simp only [ROs] at hros
    obtain ⟨rfl, rfl⟩ := hros
    simp only [ofRes.go, putAll, RAL]
    exact ⟨φ, h, trivial, fun v u h => h⟩
  | _ => intro σ φ k y vs Ls h hok; simp [okRes] at hok

/-- A call's results: the values, and the rows that come with them. -/
theorem ofRes_sound {r : Ty} {d : Nat} {y : den r} {v : Value} {Ls : List Loc} (h : Rel P X σ a w φ G M) (hok : okRes r = true) (hany : hasAny σ.heap (ofRes d r y).2 = false) (hres : ResV P r G w y v Ls)
    (hfree : ∀ L ∈ Ls, Free σ φ M L) (hpw : Ls.Pairwise fun a b => 0 < a.cap → 0 < b.cap → a.blk ≠ b.blk) :
    ∃ φ', Rel P X ⟨σ.env, putAll σ.heap (ofRes d r y).2⟩ a w φ' G M ∧ RA P φ' G M w (putAll σ.heap (ofRes d r y).2) (ofRes d r y).1 v := by
  cases r with
  | pair t b =>
    cases b with
    | unit =>
      simp only [ResV] at hres
      by_cases ho : ∃ s, t = .olist s
      · obtain ⟨s, rfl⟩ := ho
        simp only [RVL] at hres
        obtain ⟨L, rfl, hsl, hrow⟩ := hres
        simp only [ofRes] at hany ⊢
        obtain ⟨hk, _⟩ := hasAny_cons hany
        obtain ⟨φ1, hR1, hra1, _, _⟩ := h.adopt (d := d) hk hrow (hfree L (by simp)) hsl
        exact ⟨φ1, hR1, hra1⟩
      · have hno : ∀ s, t ≠ .olist s := fun s e => ho ⟨s, e⟩
        obtain ⟨hL0, hv'⟩ := RVL.plainV hno hres
        subst hL0
        have hgo : ofRes d (.pair t .unit) y = (ofV t y.1, []) := by
          cases t with
          | olist s => exact absurd rfl (hno s)
          | _ => rfl
        have hok' : plain t = true := by simp only [okRes, Bool.and_eq_true] at hok; exact hok.1
        rw [hgo]
        exact ⟨φ, h, RV.ra hok' hv'⟩
    | pair s c =>
      have hgo : ofRes d (.pair t (.pair s c)) y = (.tup (ofRes.go (10000 + 100 * d) (.pair t (.pair s c)) y).1, (ofRes.go (10000 + 100 * d) (.pair t (.pair s c)) y).2) := by
        cases t <;> rfl
      simp only [ResV] at hres
      obtain ⟨vs, rfl, hros⟩ := hres
      rw [hgo] at hany ⊢
      obtain ⟨φ', hR, hral, _⟩ := go_sound h hok hany hros hfree hpw
      exact ⟨φ', hR, by simp only [RA]; exact ⟨vs, rfl, hral⟩⟩
    | _ => cases t <;> simp [okRes] at hok
  | unit =>
    simp only [ResV] at hres
    obtain ⟨vs, rfl, hros⟩ := hres
    obtain ⟨φ', hR, hral, _⟩ := go_sound (k := 10000 + 100 * d) h hok hany hros hfree hpw
    exact ⟨φ', hR, by simp only [ofRes, RA]; exact ⟨vs, rfl, hral⟩⟩
  | _ => simp [okRes] at hok

theorem flat_put {r : Ty} (hf : flat r = true) {d : Nat} {y : den r} : (ofRes d r y).2 = [] := by
  have go : ∀ {r : Ty} {k : Nat} {y : den r}, flat r = true → (ofRes.go k r y).2 = [] := by
    intro r
    induction r with
    | pair t b _ ih =>
      intro k y hf
      simp only [AM.flat, Bool.and_eq_true] at hf
      cases t <;> simp_all [ofRes.go, AM.flat]
    | _ => intro k y hf; rfl
  cases r with
  | pair t b =>
    have hf' := hf
    simp only [AM.flat, Bool.and_eq_true] at hf
    cases b with
    | unit => cases t <;> first | rfl | simp [AM.flat] at hf
    | _ => cases t <;> exact go hf'
  | _ => exact go hf
end
end Go.AM

set_option linter.unusedSimpArgs false
namespace Go.AM
open Go.RowKit
section
variable {P : Program} {TT : TyTab} {N : Nat} {rowAt : List Nat} {X : Ctx} {σ : St} {a : Act} {w : World} {φ : Nat → Loc} {G M : Nat → Prop} {o : Oper} {next : Act → World → Prop} {Q : Exit → Act → World → Prop}

theorem RVL_nil {t : Ty} {G : Nat → Prop} {w : World} {x : den t} {v : Value} (h : RVL P t G w x v []) : RV P t G w x v := by
  cases t with
  | olist s => simp only [RVL] at h; obtain ⟨L, hL, _⟩ := h; cases hL
  | _ => simp only [RVL] at h; exact h.2

/-- Results without memory, from the other relation. -/
theorem RRes.res {r : Ty} (hf : flat r = true) {G G' : Nat → Prop} {w w' : World} {y : den r} {v : Value} (h : RRes P r G w y v) (hok : okRes r = true) : ResV P r G' w' y v [] := by
  have one : ∀ {t : Ty} (hf : AM.flat t = true) {x : den t} {v : Value}, RV P t G w x v → RVL P t G' w' x v [] := by
    intro t hf x v hv
    have hv' : RV P t G' w' x v := by
      unfold RV at *
      split
      · rename_i hs
        simp only [hs, if_true] at hv
        obtain ⟨cs, e, hh⟩ := hv
        exact ⟨cs, e, RT.flat hf hh⟩
      · rename_i hs
        simp only [hs] at hv
        exact RT.flat hf (by simpa using hv)
    cases t <;> first | (simp [AM.flat] at hf; done) | (simp only [RVL]; exact ⟨trivial, hv'⟩)
  have many : ∀ {r : Ty} {y : den r} {vs : List Value}, AM.flat r = true → okRes r = true → RArgs P r G w y vs → ROs P r G' w' y vs [] := by
    intro r
    induction r with
    | pair t b _ ih =>
      intro y vs hf hok h
      simp only [AM.flat, Bool.and_eq_true] at hf
      simp only [okRes, Bool.and_eq_true] at hok
      simp only [RArgs] at h
      obtain ⟨v, vs', rfl, h1, h2⟩ := h
      simp only [ROs]
      exact ⟨v, vs', [], [], rfl, rfl, one hf.1 h1, ih hf.2 hok.2 h2⟩
    | unit => intro y vs _ _ h; simp only [RArgs] at h; simp only [ROs]; exact ⟨h, trivial⟩
    | _ => intro y vs _ hok; simp [okRes] at hok
  cases r with
  | pair t b =>
    cases b with
    | unit =>
      simp only [AM.flat, Bool.and_eq_true] at hf
      simp only [RRes] at h
      simp only [ResV]
      exact one hf.1 h
    | pair s c =>
      simp only [RRes] at h
      obtain ⟨vs, rfl, u, vs', hvs, h1, h2⟩ := h
      simp only [ResV]
      refine ⟨vs, rfl, many hf hok ?_⟩
      rw [hvs]
      simp only [RArgs]
      exact ⟨u, vs', rfl, h1, by simpa only [RArgs] using h2⟩
    | _ => simp [okRes] at hok
  | unit =>
    simp only [RRes] at h
    subst h
    simp only [ResV, ROs]
    exact ⟨#[], rfl, rfl, trivial⟩
  | _ => simp [okRes] at hok

/-- The end of any call. -/
theorem call_cont {d : Nat} {vs : List AV} {ar r : Ty} {y : den r} {pre need : Prop} {v : AV} {e : Eff} (hr : callR d σ.heap vs pre ar r y = .ok need v e) (hok : okRes r = true) (h : Rel P X σ a w φ G M)
    {f : Nat} {args : Array Value}
    (hcalls : need → ∀ G1, (∀ b, G1 b → b < w.heap.size) → (∀ b, G b → G1 b) → ((∀ b, M b → G1 b) ∨ (noRef ar = true ∧ ∃ σ' M', σ'.env = σ.env ∧ Rel P X σ' a w φ G1 M' ∧ HS σ.heap σ'.heap ∧ Frozen σ'.heap (vs.flatMap (keysV σ.heap)))) →
      Calls P f args w fun en w' => ∃ v G' Ls, en = .returned v ∧ Below w.heap.size w w' ∧ (∀ b, G' b → b < w'.heap.size ∧ (b < w.heap.size → G1 b)) ∧ ResV P r G' w' y v Ls ∧ OwnLs w w' G' Ls)
    (hn : need) (hk : Cont P X σ e v a o next) :
    Calls P f args w fun
      | .returned v, w'' => next (a.put o.dst v) w''
      | .panicked chain, w'' => Q (.panic chain) a w''
      | .outgrown, _ => LetsOut Q := by
  unfold callR at hr
  split at hr
  · cases hr
  · rename_i hcond
    have hany : hasAny σ.heap (ofRes d r y).2 = false := by
      cases hq : hasAny σ.heap (ofRes d r y).2 with
      | false => rfl
      | true => simp [hq] at hcond
    have hmode : (flat r || noRef ar) = true := by
      cases hq : (flat r || noRef ar) with
      | true => rfl
      | false => simp [hq] at hcond
    cases hr
    by_cases hf : flat r = true
    · -- nothing of memory comes back
      refine (hcalls hn (fun b => b < w.heap.size) (fun _ h => h) h.heap.bnd (.inl h.heap.mnd)).mono fun en w' => ?_
      rintro ⟨u, G', Ls, rfl, hb, hG', hres, _⟩
      have hres' := RRes.res (G' := G) (w' := w') hf (ResV.flat (G' := G) (w' := w') hf hok hres) hok
      have hR := h.call hb (fun _ => False) (fun b hb => hb.elim)
      obtain ⟨φ', hR', hra⟩ := ofRes_sound (d := d) (a := a) (X := X) hR hok (by rw [flat_put hf]; rfl) (RRes.res (G' := fun b => G b ∨ False) (w' := w') hf (ResV.flat (G' := G) (w' := w') hf hok hres) hok) (fun L hL => by cases hL) List.Pairwise.nil
      have he : σ.eff { frz := if flat r = true then [] else vs.flatMap (keysV σ.heap), put := (ofRes d r y).2 } = ⟨σ.env, putAll σ.heap (ofRes d r y).2⟩ := by
        rw [if_pos hf]; rfl
      refine hk w' u φ' (fun b => G b ∨ False) M ?_ ?_
      · rw [he]; exact hR'
      · rw [he]; exact hra
    · have hnr : noRef ar = true := by simpa [hf] using hmode
      obtain ⟨G1, M1, hg1, h1⟩ := h.frz (vs.flatMap (keysV σ.heap))
      refine (hcalls hn G1 h1.heap.bnd hg1 (.inr ⟨hnr, ⟨σ.env, frzH σ.heap (vs.flatMap (keysV σ.heap))⟩, M1, rfl, h1, HS.frz _ _, frzH_frozen _ _⟩)).mono fun en w' => ?_
      rintro ⟨u, G', Ls, rfl, hb, hG', hres, hown, hpw⟩
      obtain ⟨hR, _⟩ := h1.callO hb G' (fun b => ∃ L ∈ Ls, 0 < L.cap ∧ L.blk = b) hG' (fun b hb => by
        obtain ⟨L, hL, hc, rfl⟩ := hb; exact hown L hL hc)
      have hany' : hasAny (frzH σ.heap (vs.flatMap (keysV σ.heap))) (ofRes d r y).2 = false := by
        have hs := HS.frz (vs.flatMap (keysV σ.heap)) σ.heap
        generalize (ofRes d r y).2 = ps at hany
        induction ps with
        | nil => rfl
        | cons p ps ih =>
          obtain ⟨h1, h2⟩ := hasAny_cons hany
          have := hs p.1
          rw [h1] at this
          obtain ⟨j, oj⟩ := p
          simp only [hasAny, Bool.or_eq_false_iff]
          refine ⟨?_, ih h2⟩
          cases hq : hget (frzH σ.heap (vs.flatMap (keysV σ.heap))) j with
          | none => rfl
          | some q => simp only at this; rw [hq] at this; simp [oSame] at this
      have hresM : ResV P r (fun b => G1 b ∨ G' b) w' y u Ls := by
        have okv : ∀ {t : Ty} {x : den t} {v : Value} {Ls : List Loc}, plain t = true → RVL P t G' w' x v Ls → RVL P t (fun b => G1 b ∨ G' b) w' x v Ls := by
          intro t x v Ls hp hv
          cases t with
          | olist s =>
            simp only [RVL] at hv ⊢
            obtain ⟨L, rfl, h1, h2⟩ := hv
            exact ⟨L, rfl, h1, h2.mono (fun b hb => .inr hb) (fun _ _ => rfl) (fun _ => rfl)⟩
          | _ => simp only [RVL] at hv ⊢; exact ⟨hv.1, RV.mono (P := P) hp hv.2 (fun b hb => .inr hb) (fun _ _ => rfl)⟩
        have okm : ∀ {r : Ty} {y : den r} {vs : List Value} {Ls : List Loc}, okRes r = true → ROs P r G' w' y vs Ls → ROs P r (fun b => G1 b ∨ G' b) w' y vs Ls := by
          intro r
          induction r with
          | pair t b _ ih =>
            intro y vs Ls hok h
            simp only [okRes, Bool.and_eq_true] at hok
            simp only [ROs] at h ⊢
            obtain ⟨v, vs', L1, L2, rfl, rfl, h1, h2⟩ := h
            exact ⟨v, vs', L1, L2, rfl, rfl, okv hok.1 h1, ih hok.2 h2⟩
          | _ => intro y vs Ls hok h; simp only [ROs] at h ⊢; exact h
        cases r with
        | pair t b =>
          cases b with
          | unit =>
            simp only [okRes, Bool.and_eq_true] at hok
            simp only [ResV] at hres ⊢
            exact okv hok.1 hres
          | _ =>
            simp only [ResV] at hres ⊢
            obtain ⟨vs, rfl, h⟩ := hres
            exact ⟨vs, rfl, okm hok h⟩
        | _ =>
          simp only [ResV] at hres ⊢
          obtain ⟨vs, rfl, h⟩ := hres
          exact ⟨vs, rfl, okm hok h⟩
      obtain ⟨φ', hR', hra⟩ := ofRes_sound (d := d) hR hok hany' hresM (fun L hL hc => ⟨.inr ⟨L, hL, hc, rfl⟩, fun k ob hkk ha => by
        have := RObj.lt h1.heap hkk ha
        have := (hown L hL hc).1
        omega⟩) hpw
      have he : σ.eff { frz := if flat r = true then [] else vs.flatMap (keysV σ.heap), put := (ofRes d r y).2 } = ⟨σ.env, putAll (frzH σ.heap (vs.flatMap (keysV σ.heap))) (ofRes d r y).2⟩ := by
        rw [if_neg hf]; rfl
      refine hk w' u φ' (fun b => G1 b ∨ G' b) (fun b => M1 b ∨ ∃ L ∈ Ls, 0 < L.cap ∧ L.blk = b) ?_ ?_
      · rw [he]; exact hR'
      · rw [he]; exact hra

theorem exec_callF {c : Call} (ho : o.op = .call c) {f : Nat} {fn : Func} (hf : P.funcs[f]? = some fn) (hname : fn.name ≠ "runtime.NumGoroutine") (hbody : fn.body.isSome = true) {first caps : Array Value} {args : Array Operand}
    (hc : (∃ g, c.callee = .value g ∧ a.eval g = .func (.func f) first caps) ∧ c.args = args) : (execOp a.eval o).run P w = .ok (.enter f (first ++ args.map a.eval ++ caps)) w := by
  obtain ⟨callee, args', ats⟩ := c
  obtain ⟨⟨g, hg, hga⟩, hargs⟩ := hc
  simp only at hg hargs
  subst hg; subst hargs
  have hb : ¬ (fn.body = none) := by intro hb; rw [hb] at hbody; cases hbody
  simp [execOp, ho, resolve, Deferred.ofValue, hga, invoke, callFunc, hf, hname, hb]

/-- A call of a function value. -/
theorem sound_callfv (h : Rel P X σ a w φ G M) {T : Tab} (hT : TabOK P T) {c : Call} (ho : o.op = .call c) {g : Operand} (hc : c.callee = .value g) {d : Nat} {ar r : Ty} {p : den ar → den r} (hok : okRes r = true) (hg : RA P φ G M w σ.heap (.fv ar r p) (a.eval g)) {vs : List AV}
    (hv : ∀ {σ' : St} {G' M' : Nat → Prop}, σ'.env = σ.env → Rel P X σ' a w φ G' M' → RAL P φ G' M' w σ'.heap vs (c.args.toList.map a.eval)) {x : den ar} (hx : toArgs T σ.heap ar vs = some x)
    {need : Prop} {v : AV} {e : Eff} (hr : callR d σ.heap vs True ar r (p x) = .ok need v e) (hk : Cont P X σ e v a o next) : o.wp P a w next Q := by
  simp only [RA] at hg
  obtain ⟨f, caps, wd, hga, hag, hsz, hf, _, hfn⟩ := hg
  obtain ⟨⟨fn, hf1, hf2, hf3⟩, hfn⟩ := hfn
  have hx1 := exec_callF (P := P) (w := w) (a := a) ho hf1 hf2 hf3 (args := c.args) ⟨⟨g, hc, hga⟩, rfl⟩
  unfold Oper.wp
  rw [hx1]
  have hneed : need = True := by
    unfold callR at hr
    split at hr
    · cases hr
    · cases hr; rfl
  refine call_cont hr hok h (fun hn G1 hb hG hm => ?_) (by rw [hneed]; trivial) hk
  have ha : RArgs P ar G1 w x (c.args.toList.map a.eval) := by
    rcases hm with hm | ⟨hnr, σ', M', he, hR, hs, hfz⟩
    · exact toArgs_sound hT h.heap hG (.inl hm) (hv rfl h) hx
    · exact toArgs_sound hT hR.heap (fun _ h => h) (.inr ⟨hnr, hfz.sub (flatKeys_sub σ.heap vs)⟩) (hv he hR) (by rw [toArgs_same hs]; exact hx)
  have := hfn w hag hsz G1 x _ hb ha
  have e1 : (#[] : Array Value) ++ c.args.map a.eval ++ caps = (c.args.toList.map a.eval).toArray ++ caps := by
    apply Array.toList_inj.1; simp
  rw [e1]
  refine this.mono fun en w' => ?_
  rintro ⟨u, rfl, hres, hb⟩
  exact ⟨u, fun _ => False, [], rfl, hb, fun b hb => hb.elim, RRes.res hf hres hok, ⟨fun L hL => (by cases hL), List.Pairwise.nil⟩⟩
end
end Go.AM

set_option linter.unusedSimpArgs false
namespace Go.AM
open Go.RowKit
section
variable {P : Program} {TT : TyTab} {N : Nat} {rowAt : List Nat} {X : Ctx} {σ : St} {a : Act} {w : World} {φ : Nat → Loc} {G M : Nat → Prop} {o : Oper} {next : Act → World → Prop} {Q : Exit → Act → World → Prop}

theorem RC.mono {t : Ty} : ∀ {G G' : Nat → Prop} {w w' : World} {x : den t} {vs : List Value} {Ls : List Loc}, plain t = true → RC P t G w x vs Ls → (∀ b, G b → G' b) → Ag G w w' →
    (∀ L ∈ Ls, 0 < L.cap → w'.heap[L.blk]? = w.heap[L.blk]?) → RC P t G' w' x vs Ls := by
  induction t with
  | olist t _ =>
    intro G G' w w' x vs Ls hp h hG hA hb
    simp only [RC] at h ⊢
    obtain ⟨v, L, rfl, rfl, h1, h2⟩ := h
    exact ⟨v, L, rfl, rfl, h1, h2.mono hG hA (hb L (List.mem_cons_self ..))⟩
  | pair s b iha ihb =>
    intro G G' w w' x vs Ls hp h hG hA hb
    simp only [plain, Bool.and_eq_true] at hp
    simp only [RC] at h ⊢
    obtain ⟨v1, v2, L1, L2, rfl, rfl, h1, h2⟩ := h
    exact ⟨v1, v2, L1, L2, rfl, rfl, iha hp.1 h1 hG hA (fun L hL => hb L (List.mem_append_left _ hL)), ihb hp.2 h2 hG hA (fun L hL => hb L (List.mem_append_right _ hL))⟩
  | _ =>
    intro G G' w w' x vs Ls hp h hG hA hb
    simp only [RC] at h ⊢
    exact ⟨h.1, RT.mono (P := P) hp h.2 hG hA⟩

theorem blks_app (A B : List Loc) : blks (A ++ B) = blks A ++ blks B := by simp [blks]
theorem mem_blks {Ls : List Loc} {b : Nat} : b ∈ blks Ls ↔ ∃ L ∈ Ls, 0 < L.cap ∧ L.blk = b := by
  simp only [blks, List.mem_map, List.mem_filter, decide_eq_true_eq]
  constructor
  · rintro ⟨L, ⟨h1, h2⟩, h3⟩; exact ⟨L, h1, h2, h3⟩
  · rintro ⟨L, h1, h2, h3⟩; exact ⟨L, ⟨h1, h2⟩, h3⟩

theorem putAll_app (ps qs : List (Nat × Obj)) : ∀ H, putAll H (ps ++ qs) = putAll (putAll H ps) qs := by
  induction ps with
  | nil => intro H; rfl
  | cons p ps ih => intro H; exact ih _
theorem hget_putAll_ne {j : Nat} : ∀ {ps : List (Nat × Obj)} {H : Heap}, j ∉ ps.map (·.1) → hget (putAll H ps) j = hget H j := by
  intro ps
  induction ps with
  | nil => intro H _; rfl
  | cons p ps ih =>
    intro H h
    simp only [List.map_cons, List.mem_cons, not_or] at h
    show hget (putAll (hput H p.1 p.2) ps) j = _
    rw [ih h.2, hget_hput_ne _ _ _ _ h.1]
theorem hasAny_iff {ps : List (Nat × Obj)} {H : Heap} : hasAny H ps = false ↔ ∀ k ∈ ps.map (·.1), hget H k = none := by
  induction ps with
  | nil => simp [hasAny]
  | cons p ps ih =>
    obtain ⟨k, o⟩ := p
    simp only [hasAny, Bool.or_eq_false_iff, ih, List.map_cons, List.mem_cons, forall_eq_or_imp]
    constructor
    · rintro ⟨h1, h2⟩
      refine ⟨?_, h2⟩
      cases hq : hget H k with
      | none => rfl
      | some o => rw [hq] at h1; cases h1
    · rintro ⟨h1, h2⟩
      exact ⟨by rw [h1]; rfl, h2⟩

/-- Behind an adoption: each object is one that was there, or stands at one of the new places. -/
def Old (φ φ' : Nat → Loc) (H H' : Heap) (Ls : List Loc) : Prop := ∀ j ob, hget H' j = some ob → alloc φ' j ob → (∃ L ∈ Ls, 0 < L.cap ∧ (φ' j).blk = L.blk) ∨ (hget H j = some ob ∧ alloc φ j ob ∧ (φ' j).blk = (φ j).blk)
theorem Old.refl (φ : Nat → Loc) (H : Heap) (Ls : List Loc) : Old φ φ H H Ls := fun j ob h1 h2 => .inr ⟨h1, h2, rfl⟩
theorem Old.trans {φ φ1 φ2 : Nat → Loc} {H H1 H2 : Heap} {L1 L2 : List Loc} (h1 : Old φ φ1 H H1 L1) (h2 : Old φ1 φ2 H1 H2 L2) : Old φ φ2 H H2 (L1 ++ L2) := by
  intro j ob hj ha
  rcases h2 j ob hj ha with ⟨L, hL, hc, e⟩ | ⟨hj1, ha1, e⟩
  · exact .inl ⟨L, List.mem_append_right _ hL, hc, e⟩
  · rcases h1 j ob hj1 ha1 with ⟨L, hL, hc, e1⟩ | ⟨hj0, ha0, e1⟩
    · exact .inl ⟨L, List.mem_append_left _ hL, hc, e.trans e1⟩
    · exact .inr ⟨hj0, ha0, e.trans e1⟩
/-- Places that nobody has yet. -/
def Vac (φ : Nat → Loc) (M : Nat → Prop) (H : Heap) (Ls : List Loc) : Prop := (∀ L ∈ Ls, 0 < L.cap → M L.blk ∧ ∀ k o, hget H k = some o → AM.alloc φ k o → (φ k).blk ≠ L.blk) ∧ (blks Ls).Nodup
theorem Vac.left {H : Heap} {A B : List Loc} (h : Vac φ M H (A ++ B)) : Vac φ M H A := by
  refine ⟨fun L hL => h.1 L (List.mem_append_left _ hL), ?_⟩
  have := h.2
  rw [blks_app, List.nodup_append] at this
  exact this.1
theorem Vac.right {H H' : Heap} {φ' : Nat → Loc} {A B : List Loc} (h : Vac φ M H (A ++ B)) (ho : Old φ φ' H H' A) : Vac φ' M H' B := by
  have hn := h.2
  rw [blks_app, List.nodup_append] at hn
  refine ⟨fun L hL hc => ⟨(h.1 L (List.mem_append_right _ hL) hc).1, fun k ob hk ha e => ?_⟩, hn.2.1⟩
  rcases ho k ob hk ha with ⟨L', hL', hc', e'⟩ | ⟨h0, ha0, e'⟩
  · exact hn.2.2 L'.blk (mem_blks.2 ⟨L', hL', hc', rfl⟩) L.blk (mem_blks.2 ⟨L, hL, hc, rfl⟩) (e'.symm.trans e)
  · exact (h.1 L (List.mem_append_right _ hL) hc).2 k ob h0 ha0 (e'.symm.trans e)
theorem fresh_right {H : Heap} {ps qs : List (Nat × Obj)} (h : hasAny H (ps ++ qs) = false) (hn : ((ps ++ qs).map (·.1)).Nodup) :
    hasAny H ps = false ∧ (ps.map (·.1)).Nodup ∧ hasAny (putAll H ps) qs = false ∧ (qs.map (·.1)).Nodup := by
  rw [hasAny_iff] at h
  rw [List.map_append, List.nodup_append] at hn
  refine ⟨hasAny_iff.2 fun k hk => h k (by rw [List.map_append]; exact List.mem_append_left _ hk), hn.1, hasAny_iff.2 fun k hk => ?_, hn.2.1⟩
  rw [hget_putAll_ne (fun hk' => hn.2.2 k hk' k hk rfl)]
  exact h k (by rw [List.map_append]; exact List.mem_append_right _ hk)

theorem RAL.map {φ' : Nat → Loc} {G' M' : Nat → Prop} {w' : World} {H H' : Heap} (f : ∀ v u, RA P φ G M w H v u → RA P φ' G' M' w' H' v u) : ∀ {vs : List AV} {us : List Value}, RAL P φ G M w H vs us → RAL P φ' G' M' w' H' vs us := by
  intro vs
  induction vs with
  | nil => intro us h; simpa only [RAL] using h
  | cons v vs ih =>
    intro us h
    simp only [RAL] at h ⊢
    obtain ⟨u, us', rfl, g1, g2⟩ := h
    exact ⟨u, us', rfl, f _ _ g1, ih g2⟩

theorem cellsO_sound {t : Ty} : ∀ {σ : St} {φ : Nat → Loc} {k : Nat} {x : den t} {vs : List Value} {Ls : List Loc}, plain t = true → Rel P X σ a w φ G M → hasAny σ.heap (cellsO k t x).2 = false → ((cellsO k t x).2.map (·.1)).Nodup →
    RC P t G w x vs Ls → Vac φ M σ.heap Ls →
    ∃ φ', Rel P X ⟨σ.env, putAll σ.heap (cellsO k t x).2⟩ a w φ' G M ∧ RAL P φ' G M w (putAll σ.heap (cellsO k t x).2) (cellsO k t x).1 vs ∧
      (∀ v u, RA P φ G M w σ.heap v u → RA P φ' G M w (putAll σ.heap (cellsO k t x).2) v u) ∧ Old φ φ' σ.heap (putAll σ.heap (cellsO k t x).2) Ls := by
  induction t with
  | olist t _ =>
    intro σ φ k x vs Ls hp h hany hn hr hv
    simp only [RC] at hr
    obtain ⟨v, L, rfl, rfl, h1, h2⟩ := hr
    have hk : hget σ.heap k = none := hasAny_iff.1 hany k (by simp [cellsO])
    obtain ⟨φ', e1, e2, e3, e4⟩ := h.adopt hk h2 (fun hc => hv.1 L (List.mem_cons_self ..) hc) h1
    refine ⟨φ', e1, ?_, e3, ?_⟩
    · simp only [cellsO, RAL]; exact ⟨v, [], rfl, e2, rfl⟩
    · intro j ob hj ha
      rcases e4 j ob hj ha with ⟨_, hc, e⟩ | ⟨_, hj0, ha0, e⟩
      · exact .inl ⟨L, List.mem_cons_self .., hc, e⟩
      · exact .inr ⟨hj0, ha0, e⟩
  | pair s b iha ihb =>
    intro σ φ k x vs Ls hp h hany hn hr hv
    simp only [plain, Bool.and_eq_true] at hp
    simp only [RC] at hr
    obtain ⟨v1, v2, L1, L2, rfl, rfl, h1, h2⟩ := hr
    simp only [cellsO] at hany hn ⊢
    obtain ⟨f1, f2, f3, f4⟩ := fresh_right hany hn
    obtain ⟨φ1, a1, a2, a3, a4⟩ := iha hp.1 h f1 f2 h1 hv.left
    obtain ⟨φ2, b1, b2, b3, b4⟩ := ihb (σ := ⟨σ.env, putAll σ.heap (cellsO k s x.1).2⟩) hp.2 a1 f3 f4 h2 (hv.right a4)
    refine ⟨φ2, ?_, ?_, ?_, ?_⟩
    · rw [putAll_app]; exact b1
    · rw [putAll_app]
      exact RAL.append (RAL.map b3 a2) b2
    · intro v u hvu
      rw [putAll_app]
      exact b3 v u (a3 v u hvu)
    · rw [putAll_app]; exact a4.trans b4
  | _ =>
    intro σ φ k x vs Ls hp h hany hn hr hv
    simp only [RC] at hr
    exact ⟨φ, h, RT.cells' hp hr.2, fun v u hvu => hvu, Old.refl _ _ _⟩

theorem ofM_sound {t : Ty} {σ : St} {φ : Nat → Loc} {k : Nat} {x : den t} {v : Value} {Ls : List Loc} (hp : plain t = true) (h : Rel P X σ a w φ G M) (hany : hasAny σ.heap (ofM k t x).2 = false) (hn : ((ofM k t x).2.map (·.1)).Nodup)
    (hr : RVM P t G w x v Ls) (hv : Vac φ M σ.heap Ls) :
    ∃ φ', Rel P X ⟨σ.env, putAll σ.heap (ofM k t x).2⟩ a w φ' G M ∧ RA P φ' G M w (putAll σ.heap (ofM k t x).2) (ofM k t x).1 v ∧
      (∀ v u, RA P φ G M w σ.heap v u → RA P φ' G M w (putAll σ.heap (ofM k t x).2) v u) ∧ Old φ φ' σ.heap (putAll σ.heap (ofM k t x).2) Ls := by
  cases t with
  | pair s b =>
    simp only [RVM] at hr
    obtain ⟨cs, rfl, hr⟩ := hr
    obtain ⟨φ', e1, e2, e3, e4⟩ := cellsO_sound (k := k) hp h hany hn hr hv
    exact ⟨φ', e1, by simp only [ofM, RA]; exact ⟨cs, rfl, e2⟩, e3, e4⟩
  | olist s =>
    simp only [RVM] at hr
    obtain ⟨φ', e1, e2, e3, e4⟩ := cellsO_sound (k := k) hp h hany hn hr hv
    refine ⟨φ', e1, ?_, e3, e4⟩
    simp only [cellsO, RAL] at e2
    obtain ⟨u, us', e, g1, g2⟩ := e2
    simp only [List.cons.injEq] at e
    obtain ⟨rfl, _⟩ := e
    exact g1
  | _ =>
    simp only [RVM] at hr
    exact ⟨φ, h, RV.ra hp hr.2, fun v u hvu => hvu, Old.refl _ _ _⟩

theorem goM_sound {r : Ty} : ∀ {σ : St} {φ : Nat → Loc} {k : Nat} {y : den r} {vs : List Value} {Ls : List Loc}, okRes r = true → Rel P X σ a w φ G M → hasAny σ.heap (goM k r y).2 = false → ((goM k r y).2.map (·.1)).Nodup →
    ROM P r G w y vs Ls → Vac φ M σ.heap Ls →
    ∃ φ', Rel P X ⟨σ.env, putAll σ.heap (goM k r y).2⟩ a w φ' G M ∧ RAL P φ' G M w (putAll σ.heap (goM k r y).2) (goM k r y).1 vs ∧
      (∀ v u, RA P φ G M w σ.heap v u → RA P φ' G M w (putAll σ.heap (goM k r y).2) v u) ∧ Old φ φ' σ.heap (putAll σ.heap (goM k r y).2) Ls := by
  induction r with
  | pair t b _ ih =>
    intro σ φ k y vs Ls hok h hany hn hr hv
    simp only [okRes, Bool.and_eq_true] at hok
    simp only [ROM] at hr
    obtain ⟨v, vs', L1, L2, rfl, rfl, h1, h2⟩ := hr
    simp only [goM] at hany hn ⊢
    obtain ⟨f1, f2, f3, f4⟩ := fresh_right hany hn
    obtain ⟨φ1, a1, a2, a3, a4⟩ := ofM_sound (k := k) hok.1 h f1 f2 h1 hv.left
    obtain ⟨φ2, b1, b2, b3, b4⟩ := ih (σ := ⟨σ.env, putAll σ.heap (ofM k t y.1).2⟩) hok.2 a1 f3 f4 h2 (hv.right a4)
    refine ⟨φ2, ?_, ?_, ?_, ?_⟩
    · rw [putAll_app]; exact b1
    · rw [putAll_app]; simp only [RAL]; exact ⟨v, vs', rfl, b3 _ _ a2, b2⟩
    · intro v u hvu
      rw [putAll_app]
      exact b3 v u (a3 v u hvu)
    · rw [putAll_app]; exact a4.trans b4
  | _ =>
    intro σ φ k y vs Ls hok h hany hn hr hv
    simp only [ROM] at hr
    obtain ⟨rfl, _⟩ := hr
    exact ⟨φ, h, by simp only [goM, RAL], fun v u hvu => hvu, Old.refl _ _ _⟩

theorem ofResM_sound {r : Ty} {k : Nat} {y : den r} {v : Value} {Ls : List Loc} (hok : okRes r = true) (h : Rel P X σ a w φ G M) (hany : hasAny σ.heap (ofResM k r y).2 = false) (hn : ((ofResM k r y).2.map (·.1)).Nodup)
    (hr : ResM P r G w y v Ls) (hv : Vac φ M σ.heap Ls) :
    ∃ φ', Rel P X ⟨σ.env, putAll σ.heap (ofResM k r y).2⟩ a w φ' G M ∧ RA P φ' G M w (putAll σ.heap (ofResM k r y).2) (ofResM k r y).1 v ∧
      (∀ v u, RA P φ G M w σ.heap v u → RA P φ' G M w (putAll σ.heap (ofResM k r y).2) v u) ∧ Old φ φ' σ.heap (putAll σ.heap (ofResM k r y).2) Ls := by
  have many : (∀ t, r ≠ .pair t .unit) → ∃ φ', Rel P X ⟨σ.env, putAll σ.heap (ofResM k r y).2⟩ a w φ' G M ∧ RA P φ' G M w (putAll σ.heap (ofResM k r y).2) (ofResM k r y).1 v ∧
      (∀ v u, RA P φ G M w σ.heap v u → RA P φ' G M w (putAll σ.heap (ofResM k r y).2) v u) ∧ Old φ φ' σ.heap (putAll σ.heap (ofResM k r y).2) Ls := by
    intro hne
    have e1 : ofResM k r y = (.tup (goM k r y).1, (goM k r y).2) := by
      cases r with
      | pair t b => cases b with
        | unit => exact absurd rfl (hne t)
        | _ => rfl
      | _ => rfl
    have e2 : ∃ vs : Array Value, v = .tuple vs ∧ ROM P r G w y vs.toList Ls := by
      cases r with
      | pair t b => cases b with
        | unit => exact absurd rfl (hne t)
        | _ => exact hr
      | _ => exact hr
    obtain ⟨vs, rfl, hr2⟩ := e2
    rw [e1] at hany hn ⊢
    obtain ⟨φ', a1, a2, a3, a4⟩ := goM_sound (k := k) hok h hany hn hr2 hv
    exact ⟨φ', a1, by simp only [RA]; exact ⟨vs, rfl, a2⟩, a3, a4⟩
  cases r with
  | pair t b => cases b with
    | unit =>
      simp only [okRes, Bool.and_eq_true] at hok
      exact ofM_sound hok.1 h hany hn hr hv
    | _ => exact many (by intro t; simp)
  | _ => exact many (by intro t; simp)

/-! ### the world behind the call -/
theorem RObj.mono2 {φ φ' : Nat → Loc} {G G' M M' : Nat → Prop} {w w' : World} {H H' : Heap} (E : Ext φ φ' G G' M M' w w' H H') {k : Nat} {o : Obj}
    (e : φ' k = φ k) (hb : alloc φ k o → w'.heap[(φ k).blk]? = w.heap[(φ k).blk]?) (hm : alloc φ k o → M (φ k).blk → M' (φ k).blk) (h : RObj P φ G M w H k o) : RObj P φ' G' M' w' H' k o := by
  cases o with
  | box cs =>
    simp only [RObj] at h ⊢
    obtain ⟨c, t, hc, hM, hr⟩ := h
    rw [e]
    exact ⟨c, t, (hb trivial).trans hc, hm trivial hM, RAL.mono E _ _ hr⟩
  | row t xs f =>
    simp only [RObj] at h ⊢
    rw [e]
    exact ⟨h.1.mono E.g E.ag (fun hc => hb hc), fun hc => ⟨fun hf => E.g _ ((h.2 hc).1 hf), fun hf => hm hc ((h.2 hc).2 hf)⟩⟩
  | mp m =>
    simp only [RObj] at h ⊢
    rw [e]
    obtain ⟨h1, es, clock, h2, h3⟩ := h
    exact ⟨hm trivial h1, es, clock, (hb trivial).trans h2, h3⟩

theorem Rel.callG {w' : World} (h : Rel P X σ a w φ G M) (G' O D : Nat → Prop) (hDM : ∀ b, D b → M b) (hw : w'.os = w.os ∧ w'.tape = w.tape ∧ w'.output = w.output ∧ w.heap.size ≤ w'.heap.size)
    (hkeep : ∀ b, b < w.heap.size → ¬ D b → w'.heap[b]? = w.heap[b]?) (hG : ∀ b, G' b → b < w'.heap.size ∧ (b < w.heap.size → G b ∨ D b)) (hO : ∀ b, O b → (w.heap.size ≤ b ∨ D b) ∧ b < w'.heap.size ∧ ¬ G' b)
    (H' : Heap) (hsame : ∀ k ob, hget σ.heap k = some ob → ∃ o', hget H' k = some o' ∧ shape ob o')
    (hobj : Ext φ φ G (fun b => G b ∨ G' b) M (fun b => (M b ∧ ¬ D b) ∨ O b) w w' σ.heap H' → ∀ k ob, hget H' k = some ob → RObj P φ (fun b => G b ∨ G' b) (fun b => (M b ∧ ¬ D b) ∨ O b) w' H' k ob)
    (hback : ∀ k o', hget H' k = some o' → alloc φ k o' → ∃ ob, hget σ.heap k = some ob ∧ alloc φ k ob) :
    Rel P X ⟨σ.env, H'⟩ a w' φ (fun b => G b ∨ G' b) (fun b => (M b ∧ ¬ D b) ∨ O b) ∧ ∀ v u, RA P φ G M w σ.heap v u → RA P φ (fun b => G b ∨ G' b) (fun b => (M b ∧ ¬ D b) ∨ O b) w' H' v u := by
  have E : Ext φ φ G (fun b => G b ∨ G' b) M (fun b => (M b ∧ ¬ D b) ∨ O b) w w' σ.heap H' :=
    { g := fun b hb => .inl hb
      ag := fun b hg => hkeep b (h.heap.bnd b hg) (fun hd => h.heap.sep b hg (hDM b hd))
      keep := fun b hlt hm => hkeep b hlt (fun hd => hm (hDM b hd))
      keys := fun k ob hk => ⟨rfl, hsame k ob hk⟩
      mt := fun b hlt hm => hm.elim (fun hm => hm.1) (fun ho => (hO b ho).1.elim (fun hge => by omega) (hDM b))
      size := hw.2.2.2 }
  refine ⟨h.step E ⟨hobj E, fun k k' o1 o2 hk hk' hne ha ha' => ?_, fun b hg => ?_, fun b hm => ?_, fun b hg hm => ?_⟩ hw.1 hw.2.1 hw.2.2.1 (fun b hg hlt => hg.elim .inl (fun hg => ((hG b hg).2 hlt).imp id (hDM b))), fun v u hv => RA.mono E v u hv⟩
  · obtain ⟨p1, q1, r1⟩ := hback k o1 hk ha
    obtain ⟨p2, q2, r2⟩ := hback k' o2 hk' ha'
    exact h.heap.inj k k' p1 p2 q1 q2 hne r1 r2
  · exact hg.elim (fun hg => Nat.lt_of_lt_of_le (h.heap.bnd b hg) hw.2.2.2) (fun hg => (hG b hg).1)
  · exact hm.elim (fun hm => Nat.lt_of_lt_of_le (h.heap.mnd b hm.1) hw.2.2.2) (fun ho => (hO b ho).2.1)
  · rcases hm with ⟨hm, hnd⟩ | ho
    · exact hg.elim (fun hg => h.heap.sep b hg hm) (fun hg => ((hG b hg).2 (h.heap.mnd b hm)).elim (fun hg => h.heap.sep b hg hm) hnd)
    · refine hg.elim (fun hg => ?_) (fun hg => (hO b ho).2.2 hg)
      rcases (hO b ho).1 with hge | hd
      · have := h.heap.bnd b hg; omega
      · exact h.heap.sep b hg (hDM b hd)

theorem RAL_undef {H : Heap} : ∀ {us : List Value} {n : Nat}, us.length = n → RAL P φ G M w H (List.replicate n .undef) us := by
  intro us
  induction us with
  | nil => intro n hn; subst hn; simp only [List.length_nil, List.replicate_zero, RAL]
  | cons u us ih => intro n hn; subst hn; simp only [List.length_cons, List.replicate_succ, RAL]; exact ⟨u, us, rfl, by simp only [RA], ih rfl⟩

/-- Rel looks at the heap by its keys alone. -/
theorem Rel.congr (h : Rel P X σ a w φ G M) {H' : Heap} (he : ∀ k, hget H' k = hget σ.heap k) : Rel P X ⟨σ.env, H'⟩ a w φ G M ∧ ∀ v u, RA P φ G M w σ.heap v u → RA P φ G M w H' v u := by
  have E : Ext φ φ G G M M w w σ.heap H' :=
    { g := fun b hb => hb, ag := fun _ _ => rfl, keep := fun _ _ _ => rfl, keys := fun k ob hk => ⟨rfl, ob, by rw [he]; exact hk, by cases ob <;> simp [shape]⟩, mt := fun _ _ hm => hm, size := Nat.le_refl _ }
  exact ⟨h.step E ⟨fun k ob hk => (h.heap.obj k ob (by rw [← he]; exact hk)).mono E rfl (fun _ => rfl) id, fun k k' o1 o2 hk hk' => h.heap.inj k k' o1 o2 (by rw [← he]; exact hk) (by rw [← he]; exact hk'), h.heap.bnd, h.heap.mnd, h.heap.sep⟩ rfl rfl rfl (fun b hb _ => .inl hb), fun v u hv => RA.mono E v u hv⟩

theorem kill_get {φ : Nat → Loc} {j : Nat} {ob : Obj} : ∀ {ks : List Nat} {σ : St}, hget (σ.kill ks).heap j = some ob → j ∉ ks ∧ ∃ o0, hget σ.heap j = some o0 ∧ (alloc φ j ob ↔ alloc φ j o0) := by
  intro ks
  induction ks with
  | nil => intro σ h; exact ⟨by simp, ob, h, Iff.rfl⟩
  | cons k ks ih =>
    intro σ h
    obtain ⟨h1, o0, h2, h3⟩ := ih (σ := ⟨killE k σ.env, killH k (hdel σ.heap k)⟩) h
    by_cases e : j = k
    · subst e
      simp only [hget_killH, hget_hdel, if_true, Option.map_none] at h2
      cases h2
    · rw [hget_kill k σ.heap j e] at h2
      cases hq : hget σ.heap j with
      | none => rw [hq] at h2; cases h2
      | some o1 =>
        rw [hq] at h2
        simp only [Option.map_some, Option.some.injEq] at h2
        refine ⟨by simp [e, h1], o1, rfl, h3.trans ?_⟩
        subst h2
        cases o1 <;> simp [killO, alloc]
theorem killL_len (k : Nat) : ∀ cs : List AV, (killL k cs).length = cs.length := by
  intro cs
  induction cs with
  | nil => rfl
  | cons c cs ih => simp [killL, ih]
theorem kill_box {j : Nat} : ∀ {ks : List Nat} {σ : St} {cs : List AV}, j ∉ ks → hget σ.heap j = some (.box cs) → ∃ cs', hget (σ.kill ks).heap j = some (.box cs') := by
  intro ks
  induction ks with
  | nil => intro σ cs _ h; exact ⟨cs, h⟩
  | cons k ks ih =>
    intro σ cs hj h
    simp only [List.mem_cons, not_or] at hj
    refine ih (σ := ⟨killE k σ.env, killH k (hdel σ.heap k)⟩) (cs := killL k cs) hj.2 ?_
    rw [hget_kill k σ.heap j hj.1, h]
    rfl

/-! ### what is handed over -/
def KL (φ : Nat → Loc) (H : Heap) : List Nat → List Loc → Prop
  | [], Ls => Ls = []
  | k :: ks, Ls => ∃ L Ls', Ls = L :: Ls' ∧ (∃ (t : Ty) (xs : List (den t)), hget H k = some (.row t xs false)) ∧ L.blk = (φ k).blk ∧ (0 < L.cap → 0 < (φ k).cap) ∧ KL φ H ks Ls'
theorem KL.app {H : Heap} : ∀ {ks ks' : List Nat} {Ls Ls' : List Loc}, KL φ H ks Ls → KL φ H ks' Ls' → KL φ H (ks ++ ks') (Ls ++ Ls') := by
  intro ks
  induction ks with
  | nil => intro ks' Ls Ls' h h'; simp only [KL] at h; subst h; exact h'
  | cons k ks ih =>
    intro ks' Ls Ls' h h'
    simp only [KL] at h
    obtain ⟨L, Ls1, rfl, h1, h2, h3, h4⟩ := h
    simp only [List.cons_append, KL]
    exact ⟨L, Ls1 ++ Ls', rfl, h1, h2, h3, ih h4 h'⟩
theorem KL.mem {H : Heap} : ∀ {ks : List Nat} {Ls : List Loc} {b : Nat}, KL φ H ks Ls → b ∈ blks Ls → ∃ k ∈ ks, (∃ (t : Ty) (xs : List (den t)), hget H k = some (.row t xs false)) ∧ 0 < (φ k).cap ∧ (φ k).blk = b := by
  intro ks
  induction ks with
  | nil => intro Ls b h hb; simp only [KL] at h; subst h; simp [blks] at hb
  | cons k ks ih =>
    intro Ls b h hb
    simp only [KL] at h
    obtain ⟨L, Ls1, rfl, h1, h2, h3, h4⟩ := h
    obtain ⟨L', hL', hc, e⟩ := mem_blks.1 hb
    rcases List.mem_cons.1 hL' with rfl | hL'
    · exact ⟨k, List.mem_cons_self .., h1, h3 hc, by rw [← h2, e]⟩
    · obtain ⟨k', hk', r⟩ := ih h4 (mem_blks.2 ⟨L', hL', hc, e⟩)
      exact ⟨k', List.mem_cons_of_mem _ hk', r⟩
theorem KL.nodup {H : Heap} (hH : RelH P φ G M w H) : ∀ {ks : List Nat} {Ls : List Loc}, KL φ H ks Ls → ks.Nodup → (blks Ls).Nodup := by
  intro ks
  induction ks with
  | nil => intro Ls h _; simp only [KL] at h; subst h; simp [blks]
  | cons k ks ih =>
    intro Ls h hn
    simp only [KL] at h
    obtain ⟨L, Ls1, rfl, ⟨t, xs, h1⟩, h2, h3, h4⟩ := h
    rw [List.nodup_cons] at hn
    by_cases hc : 0 < L.cap
    · have e : blks (L :: Ls1) = L.blk :: blks Ls1 := by simp [blks, hc]
      rw [e, List.nodup_cons]
      refine ⟨fun hb => ?_, ih h4 hn.2⟩
      obtain ⟨k', hk', ⟨t', xs', h1'⟩, hc', e'⟩ := h4.mem hb
      have hne : k ≠ k' := fun e => hn.1 (e ▸ hk')
      exact hH.inj k k' _ _ h1 h1' hne (by simpa [alloc] using h3 hc) (by simpa [alloc] using hc') (by rw [← h2, e'])
    · have e : blks (L :: Ls1) = blks Ls1 := by simp [blks, hc]
      rw [e]; exact ih h4 hn.2

theorem RowAt.part {t : Ty} {xs : List (den t)} {L : Loc} (h : RowAt P t G w xs L) {lo n : Nat} (hl : lo + n ≤ xs.length) : RowAt P t G w ((xs.drop lo).take n) ⟨L.blk, L.base + lo * AM.size t, L.cap - lo⟩ := by
  obtain ⟨h1, h2, h3⟩ := h
  refine ⟨h1, h2, ?_⟩
  rcases h3 with ⟨hc, rfl⟩ | ⟨c, e, a1, a2, a3, a4, a5, a6⟩
  · exact .inl ⟨by show L.cap - lo = 0; omega, by simp⟩
  · by_cases h0 : L.cap - lo = 0
    · refine .inl ⟨h0, ?_⟩
      apply List.eq_nil_of_length_eq_zero
      simp only [List.length_take, List.length_drop]
      omega
    · refine .inr ⟨c, e, by show 0 < L.cap - lo; omega, by show L.cap - lo ≤ _; omega, a3, ?_, ?_, fun i hi => ?_⟩
      · show L.base + lo * AM.size t + (L.cap - lo) * AM.size t ≤ c.size
        have : lo * AM.size t + (L.cap - lo) * AM.size t = L.cap * AM.size t := by rw [← Nat.add_mul]; congr 1; omega
        omega
      · show _ ≤ L.cap - lo
        simp only [List.length_take, List.length_drop]; omega
      · have hi' : lo + i < xs.length := by simp only [List.length_take, List.length_drop] at hi; omega
        have := a6 (lo + i) hi'
        show RT P t G w _ ((c.toList.drop (L.base + lo * AM.size t + i * AM.size t)).take _)
        have e2 : L.base + lo * AM.size t + i * AM.size t = L.base + (lo + i) * AM.size t := by rw [Nat.add_mul]; omega
        rw [e2]
        simpa using this

theorem free1_keys {c : AV} (h : free1 c = true) : keysC [c] = [] ∧ keysC (cellsOf c) = [] := by
  cases c <;> simp [free1, keysC, keys1, cellsOf] at h ⊢
theorem freeA_keys {v : AV} (h : freeA v = true) : keysC (cellsOf v) = [] := by
  cases v with
  | agg cs =>
    simp only [freeA] at h
    simp only [cellsOf]
    induction cs with
    | nil => rfl
    | cons c cs ih =>
      simp only [List.all_cons, Bool.and_eq_true] at h
      rw [keysC_cons, ih h.2]
      cases c <;> simp_all [free1, keys1]
  | _ => first | exact (free1_keys (by simpa [freeA] using h)).2 | simp [freeA, free1] at h

theorem takeC_sound {H : Heap} (hH : RelH P φ G M w H) {t : Ty} : ∀ {cs : List AV} {us : List Value} {x : den t} {ks : List Nat} {r : List AV}, RAL P φ G M w H cs us → takeC H t cs = some (x, ks, r) →
    ∃ u1 u2 Ls, us = u1 ++ u2 ∧ RAL P φ G M w H r u2 ∧ RC P t G w x u1 Ls ∧ KL φ H ks Ls := by
  have one : ∀ {t : Ty} {cs : List AV} {us : List Value} {x : den t} {ks : List Nat} {r : List AV}, (∀ (t : Ty) (xs : den t), t = t) → (RC P t G w x [us.headD undef] [] ↔ RT P t G w x [us.headD undef]) → RAL P φ G M w H cs us →
      (∃ c cs', cs = c :: cs' ∧ (free1 c && (noRef t && plain t)) = true ∧ toCells H t [c] = some (x, []) ∧ ks = [] ∧ r = cs') →
      ∃ u1 u2 Ls, us = u1 ++ u2 ∧ RAL P φ G M w H r u2 ∧ RC P t G w x u1 Ls ∧ KL φ H ks Ls := by
    intro t cs us x ks r _ hiff hr ⟨c, cs', e, hc, ht, hks, hrr⟩
    subst e; subst hks; subst hrr
    simp only [RAL] at hr
    obtain ⟨u, us', rfl, h1, h2⟩ := hr
    simp only [Bool.and_eq_true] at hc
    have hral : RAL P φ G M w H [c] [u] := by simp only [RAL]; exact ⟨u, [], rfl, h1, rfl⟩
    obtain ⟨v1, v2, e, hrt, hrest⟩ := toCells_sound hH (G1 := G) (fun _ h => h) (.inr ⟨hc.2.1, by rw [(free1_keys hc.1).1]; intro k hk; cases hk⟩) hral ht
    simp only [RAL] at hrest
    obtain ⟨rfl, _⟩ := hrest
    rw [List.append_nil] at e
    subst e
    exact ⟨[u], us', [], rfl, h2, hiff.2 hrt, by simp only [KL]⟩
  induction t with
  | olist t _ =>
    intro cs us x ks r hr h
    cases cs with
    | nil => simp [takeC] at h
    | cons c cs =>
      cases c with
      | own k lo n =>
        simp only [takeC] at h
        split at h
        · rename_i t' xs hk
          split at h
          · rename_i ys hys
            cases h
            obtain ⟨e, hye⟩ := castL?_eq hys
            subst e
            simp only at hye
            simp only [RAL] at hr
            obtain ⟨u, us', rfl, h1, h2⟩ := hr
            simp only [RA, hk] at h1
            have hob := hH.obj k _ hk
            simp only [RObj] at hob
            have hlen : ((xs.drop lo).take n).length = n := by simp only [List.length_take, List.length_drop]; omega
            refine ⟨[u], us', [⟨(φ k).blk, (φ k).base + lo * AM.size t', (φ k).cap - lo⟩], rfl, h2, ?_, ?_⟩
            · simp only [RC]
              refine ⟨u, _, rfl, rfl, ?_, ?_⟩
              · rw [← hye, hlen]
                obtain ⟨A, e1, e2, e3⟩ := h1.2
                refine ⟨A, ?_, by show 0 + n ≤ (φ k).cap - lo; omega, ?_⟩
                · rw [e1]; rfl
                · rcases e3 with e3 | e3
                  · exact .inl (by show (φ k).cap - lo - 0 = 0; omega)
                  · exact .inr (by rw [e3]; simp)
              · rw [← hye]
                exact hob.1.part h1.1
            · simp only [KL]
              exact ⟨_, [], rfl, ⟨t', xs, hk⟩, rfl, fun hc => by have : 0 < (φ k).cap - lo := hc; omega, rfl⟩
          · cases h
        · cases h
      | _ => simp [takeC] at h
  | unit =>
    intro cs us x ks r hr h
    simp only [takeC] at h
    cases h
    exact ⟨[], us, [], rfl, hr, by simp only [RC, RT]; exact ⟨trivial, trivial⟩, by simp only [KL]⟩
  | pair s b iha ihb =>
    intro cs us x ks r hr h
    simp only [takeC] at h
    split at h
    · rename_i y ks1 cs1 h1
      split at h
      · rename_i z ks2 cs2 h2
        cases h
        obtain ⟨u1, u2, L1, rfl, e1, e2, e3⟩ := iha hr h1
        obtain ⟨u3, u4, L2, rfl, f1, f2, f3⟩ := ihb e1 h2
        refine ⟨u1 ++ u3, u4, L1 ++ L2, by rw [List.append_assoc], f1, ?_, e3.app f3⟩
        simp only [RC]
        exact ⟨u1, u3, L1, L2, rfl, rfl, e2, f2⟩
      · cases h
    · cases h
  | _ =>
    intro cs us x ks r hr h
    rcases cs with _ | ⟨c, cs⟩
    · simp [takeC] at h
    · refine one (fun _ _ => rfl) (by simp only [RC]; exact ⟨fun h => h.2, fun h => ⟨trivial, h⟩⟩) hr ?_
      simp only [takeC] at h
      split at h
      · rename_i hc
        split at h
        · rename_i y hy
          cases h
          exact ⟨c, _, rfl, hc, hy, rfl, rfl⟩
        · cases h
      · cases h
end
end Go.AM

set_option linter.unusedSimpArgs false
namespace Go.AM
open Go.RowKit
section
variable {P : Program} {TT : TyTab} {N : Nat} {rowAt : List Nat} {X : Ctx} {σ : St} {a : Act} {w : World} {φ : Nat → Loc} {G M : Nat → Prop} {o : Oper} {next : Act → World → Prop} {Q : Exit → Act → World → Prop}

theorem RVM.mono {t : Ty} {G G' : Nat → Prop} {w : World} {x : den t} {v : Value} {Ls : List Loc} (hp : plain t = true) (h : RVM P t G w x v Ls) (hG : ∀ b, G b → G' b) : RVM P t G' w x v Ls := by
  cases t with
  | pair s b =>
    simp only [RVM] at h ⊢
    obtain ⟨cs, rfl, h⟩ := h
    exact ⟨cs, rfl, h.mono hp hG (fun _ _ => rfl) (fun _ _ _ => rfl)⟩
  | olist s => simp only [RVM] at h ⊢; exact h.mono hp hG (fun _ _ => rfl) (fun _ _ _ => rfl)
  | _ => simp only [RVM] at h ⊢; exact ⟨h.1, RV.mono (P := P) hp h.2 hG (fun _ _ => rfl)⟩
theorem ROM.mono {r : Ty} {G G' : Nat → Prop} {w : World} (hG : ∀ b, G b → G' b) : ∀ {y : den r} {vs : List Value} {Ls : List Loc}, okRes r = true → ROM P r G w y vs Ls → ROM P r G' w y vs Ls := by
  induction r with
  | pair t b _ ih =>
    intro y vs Ls hok h
    simp only [okRes, Bool.and_eq_true] at hok
    simp only [ROM] at h ⊢
    obtain ⟨v, vs', L1, L2, rfl, rfl, h1, h2⟩ := h
    exact ⟨v, vs', L1, L2, rfl, rfl, h1.mono hok.1 hG, ih hok.2 h2⟩
  | _ => intro y vs Ls _ h; simp only [ROM] at h ⊢; exact h
theorem ResM.mono {r : Ty} {G G' : Nat → Prop} {w : World} {y : den r} {v : Value} {Ls : List Loc} (hok : okRes r = true) (h : ResM P r G w y v Ls) (hG : ∀ b, G b → G' b) : ResM P r G' w y v Ls := by
  have many : (∃ vs : Array Value, v = .tuple vs ∧ ROM P r G w y vs.toList Ls) → ∃ vs : Array Value, v = .tuple vs ∧ ROM P r G' w y vs.toList Ls := by
    rintro ⟨vs, e, h⟩
    exact ⟨vs, e, ROM.mono hG hok h⟩
  cases r with
  | pair t b => cases b with
    | unit =>
      simp only [okRes, Bool.and_eq_true] at hok
      exact RVM.mono hok.1 h hG
    | _ => exact many h
  | _ => exact many h

theorem takeM_sound {H : Heap} (hH : RelH P φ G M w H) {ty : Ty} : ∀ {ms : List Mk} {vs : List AV} {us : List Value} {x : den ty} {ks bs gs : List Nat}, RAL P φ G M w H vs us → takeM H ty ms vs = some (x, ks, bs, gs) →
    ∃ Ls, RArgsM P ty ms G w x us Ls (bs.map fun k => (φ k).blk) (gs.map fun k => (φ k).blk) ∧ KL φ H ks Ls ∧ ∀ k, k ∈ gs ++ bs → ∃ cs, hget H k = some (.box cs) := by
  induction ty with
  | unit =>
    intro ms vs us x ks bs gs hr h
    cases ms with
    | nil => cases vs with
      | nil =>
        simp only [takeM] at h
        cases h
        simp only [RAL] at hr
        subst hr
        exact ⟨[], by simp only [RArgsM, List.map_nil]; exact ⟨trivial, trivial, trivial, trivial⟩, by simp only [KL], fun k hk => by simp at hk⟩
      | cons v vs => simp [takeM] at h
    | cons m ms => simp [takeM] at h
  | pair t b _ ih =>
    intro ms vs us x ks bs gs hr h
    cases ms with
    | nil => simp [takeM] at h
    | cons m ms =>
      cases vs with
      | nil => cases m <;> simp [takeM] at h
      | cons v vs =>
        have hr0 := hr
        simp only [RAL] at hr
        obtain ⟨u, us', rfl, hu, hus⟩ := hr
        cases m with
        | no =>
          simp only [takeM] at h
          split at h
          · rename_i hc
            simp only [Bool.and_eq_true] at hc
            split at h
            · rename_i y hy
              split at h
              · rename_i z ks' bs' gs' hz
                cases h
                obtain ⟨Ls, e1, e2, e3⟩ := ih hus hz
                refine ⟨Ls, ?_, e2, e3⟩
                simp only [RArgsM]
                exact ⟨hc.2.2, u, us', rfl, toV_sound hH (fun _ h => h) (.inr ⟨hc.2.1, by rw [freeA_keys hc.1]; intro k hk; cases hk⟩) hu hy, e1⟩
              · cases h
            · cases h
          · cases h
        | own =>
          simp only [takeM] at h
          split at h
          · rename_i y ks1 hy
            split at h
            · rename_i z ks' bs' gs' hz
              cases h
              obtain ⟨Ls, e1, e2, e3⟩ := ih hus hz
              obtain ⟨u1, u2, L1, e, f1, f2, f3⟩ := takeC_sound hH (us := [u]) (by simp only [RAL]; exact ⟨u, [], rfl, hu, rfl⟩) hy
              simp only [RAL] at f1
              subst f1
              rw [List.append_nil] at e
              subst e
              refine ⟨L1 ++ Ls, ?_, f3.app e2, e3⟩
              simp only [RArgsM]
              exact ⟨u, us', L1, Ls, rfl, rfl, f2, e1⟩
            · cases h
          · cases h
        | box =>
          cases t with
          | ref t =>
            cases v with
            | ptr k off =>
              cases off with
              | zero =>
                simp only [takeM] at h
                split at h
                · rename_i cs hk
                  split at h
                  · rename_i y ks1 hy
                    split at h
                    · rename_i z ks' bs' gs' hz
                      cases h
                      obtain ⟨Ls, e1, e2, e3⟩ := ih hus hz
                      have hob := hH.obj k _ hk
                      simp only [RObj] at hob
                      obtain ⟨c, e, g1, g2, g3⟩ := hob
                      obtain ⟨u1, u2, L1, e4, f1, f2, f3⟩ := takeC_sound hH g3 hy
                      simp only [RAL] at f1
                      subst f1
                      rw [List.append_nil] at e4
                      rw [← e4] at f2
                      simp only [RA, hk] at hu
                      refine ⟨L1 ++ Ls, ?_, f3.app e2, fun j hj => ?_⟩
                      · simp only [RArgsM, List.map_cons]
                        exact ⟨_, c, e, us', L1, Ls, _, by rw [hu.1], rfl, rfl, g1, f2, e1⟩
                      · rcases List.mem_append.1 hj with hj | hj
                        · exact e3 j (List.mem_append_left _ hj)
                        · rcases List.mem_cons.1 hj with rfl | hj
                          · exact ⟨cs, hk⟩
                          · exact e3 j (List.mem_append_right _ hj)
                    · cases h
                  · cases h
                · cases h
              | succ n => simp [takeM] at h
            | _ => simp [takeM] at h
          | _ => simp [takeM] at h
        | gone =>
          cases t with
          | ref t =>
            cases v with
            | ptr k off =>
              cases off with
              | zero =>
                simp only [takeM] at h
                split at h
                · rename_i cs hk
                  split at h
                  · rename_i y ks1 hy
                    split at h
                    · rename_i z ks' bs' gs' hz
                      cases h
                      obtain ⟨Ls, e1, e2, e3⟩ := ih hus hz
                      have hob := hH.obj k _ hk
                      simp only [RObj] at hob
                      obtain ⟨c, e, g1, g2, g3⟩ := hob
                      obtain ⟨u1, u2, L1, e4, f1, f2, f3⟩ := takeC_sound hH g3 hy
                      simp only [RAL] at f1
                      subst f1
                      rw [List.append_nil] at e4
                      rw [← e4] at f2
                      simp only [RA, hk] at hu
                      refine ⟨L1 ++ Ls, ?_, f3.app e2, fun j hj => ?_⟩
                      · simp only [RArgsM, List.map_cons]
                        exact ⟨_, c, e, us', L1, Ls, _, by rw [hu.1], rfl, rfl, g1, f2, e1⟩
                      · rcases List.mem_append.1 hj with hj | hj
                        · rcases List.mem_cons.1 hj with rfl | hj
                          · exact ⟨cs, hk⟩
                          · exact e3 j (List.mem_append_left _ hj)
                        · exact e3 j (List.mem_append_right _ hj)
                    · cases h
                  · cases h
                · cases h
              | succ n => simp [takeM] at h
            | _ => simp [takeM] at h
          | _ => simp [takeM] at h
  | _ => intro ms vs us x ks bs gs hr h; cases ms <;> cases vs <;> simp [takeM] at h

theorem box_nodup {H : Heap} (hH : RelH P φ G M w H) : ∀ {ks : List Nat}, (∀ k ∈ ks, ∃ cs, hget H k = some (.box cs)) → ks.Nodup → (ks.map fun k => (φ k).blk).Nodup := by
  intro ks
  induction ks with
  | nil => intro _ _; simp
  | cons k ks ih =>
    intro h hn
    rw [List.nodup_cons] at hn
    rw [List.map_cons, List.nodup_cons]
    refine ⟨fun hm => ?_, ih (fun j hj => h j (List.mem_cons_of_mem _ hj)) hn.2⟩
    obtain ⟨j, hj, e⟩ := List.mem_map.1 hm
    obtain ⟨c1, h1⟩ := h k (List.mem_cons_self ..)
    obtain ⟨c2, h2⟩ := h j (List.mem_cons_of_mem _ hj)
    exact hH.inj k j _ _ h1 h2 (fun e => hn.1 (e ▸ hj)) trivial trivial e.symm

/-- A call that takes over what it is handed. -/
theorem sound_callM {f : Nat} {fn : Fn} {ms : List Mk} (hT : HoldsM P f fn ms) (h : Rel P X σ a w φ G M) {d : Nat} {vs : List AV} {args : Array Value} (hx : (execOp a.eval o).run P w = .ok (.enter f args) w)
    (hv : RAL P φ G M w σ.heap vs args.toList) {need : Prop} {v : AV} {e : Eff} (hr : callM d fn ms σ.heap vs = .ok need v e) (hn : need) (hk : Cont P X σ e v a o next) : o.wp P a w next Q := by
  unfold callM at hr
  split at hr
  · rename_i x ks bs gs htk
    unfold callMR at hr
    split at hr
    · rename_i hc
      obtain ⟨hnd, hrn, hany, hbx⟩ := hc
      cases hr
      unfold Oper.wp
      rw [hx]
      obtain ⟨Ls, hra, hkl, hbox⟩ := takeM_sound h.heap hv htk
      have hksn : ks.Nodup := (List.nodup_append.1 hnd).1
      have hgbn : (gs ++ bs).Nodup := (List.nodup_append.1 hnd).2.1
      have hdj := (List.nodup_append.1 hnd).2.2
      -- the blocks
      have hmem : ∀ b, b ∈ blks Ls ++ ((gs.map fun k => (φ k).blk) ++ (bs.map fun k => (φ k).blk)) → ∃ k ∈ ks ++ (gs ++ bs), ∃ ob, hget σ.heap k = some ob ∧ alloc φ k ob ∧ M (φ k).blk ∧ (φ k).blk = b := by
        intro b hb
        rw [← List.map_append] at hb
        rcases List.mem_append.1 hb with hb | hb
        · obtain ⟨k, hk, ⟨t, xs, h1⟩, h2, h3⟩ := hkl.mem hb
          have hob := h.heap.obj k _ h1
          simp only [RObj] at hob
          exact ⟨k, List.mem_append_left _ hk, _, h1, h2, (hob.2 h2).2 trivial, h3⟩
        · obtain ⟨k, hk, e⟩ := List.mem_map.1 hb
          obtain ⟨cs, h1⟩ := hbox k hk
          have hob := h.heap.obj k _ h1
          simp only [RObj] at hob
          obtain ⟨_, _, _, hm, _⟩ := hob
          exact ⟨k, List.mem_append_right _ hk, _, h1, trivial, hm, e⟩
      have hbn : (blks Ls ++ ((gs.map fun k => (φ k).blk) ++ (bs.map fun k => (φ k).blk))).Nodup := by
        rw [← List.map_append, List.nodup_append]
        refine ⟨hkl.nodup h.heap hksn, box_nodup h.heap hbox hgbn, fun b hb b' hb' e => ?_⟩
        subst e
        obtain ⟨k, hk, ⟨t, xs, h1⟩, h2, h3⟩ := hkl.mem hb
        obtain ⟨k', hk', e⟩ := List.mem_map.1 hb'
        obtain ⟨cs, h1'⟩ := hbox k' hk'
        exact h.heap.inj k k' _ _ h1 h1' (hdj k hk k' hk') h2 trivial (h3.trans e.symm)
      have hDM : ∀ b, b ∈ blks Ls ++ ((gs.map fun k => (φ k).blk) ++ (bs.map fun k => (φ k).blk)) → M b := fun b hb => by
        obtain ⟨k, _, _, _, _, hm, e⟩ := hmem b hb
        exact e ▸ hm
      have hbk : bs = [] → fn.bk = .unit := by
        intro e; subst e; simpa [okBx] using hbx
      have hb1 : bs.length ≤ 1 := by
        match bs, hbx with
        | [], _ => exact Nat.zero_le _
        | [_], _ => exact Nat.le_refl _
      refine (hT.calls w G x args.toList Ls _ _ hn h.heap.bnd hra hbn (fun b hb => ⟨h.heap.mnd b (hDM b hb), fun hg => h.heap.sep b hg (hDM b hb)⟩) (by intro e; exact hbk (by simpa using e)) (by simpa using hb1)).mono fun en w' => ?_
      rintro ⟨u, G', L1, L2, rfl, hw, hkeep, hG', hres, hbxm, hnd2, hown⟩
      generalize hD : (fun b => b ∈ blks Ls ++ ((gs.map fun k => (φ k).blk) ++ (bs.map fun k => (φ k).blk))) = D at *
      have hDM2 : ∀ b, D b → M b := by subst hD; exact hDM
      have hmem : ∀ b, D b → ∃ k ∈ ks ++ (gs ++ bs), ∃ ob, hget σ.heap k = some ob ∧ alloc φ k ob ∧ M (φ k).blk ∧ (φ k).blk = b := by subst hD; exact hmem
      have hk1 := Rel.kill (ks ++ gs) h
      have hno : ∀ k ob, hget (σ.kill (ks ++ gs)).heap k = some ob → alloc φ k ob → D (φ k).blk → k ∈ bs := by
        intro k ob hkk ha hd
        obtain ⟨hnot, o0, h0, h0a⟩ := kill_get (φ := φ) hkk
        obtain ⟨k', hk', ob', h1, h2, _, e⟩ := hmem _ hd
        by_cases hne : k = k'
        · subst hne
          rcases List.mem_append.1 hk' with hm | hm
          · exact absurd (List.mem_append_left _ hm) hnot
          · rcases List.mem_append.1 hm with hm | hm
            · exact absurd (List.mem_append_right _ hm) hnot
            · exact hm
        · exact absurd e.symm (h.heap.inj k k' _ _ h0 h1 hne (h0a.1 ha) h2)
      have hO : ∀ b, b ∈ blks (L1 ++ L2) ++ (bs.map fun k => (φ k).blk) → (w.heap.size ≤ b ∨ D b) ∧ b < w'.heap.size ∧ ¬ G' b := hown
      have hres2 : ResM P fn.r (fun b => G b ∨ G' b) w' (fn.f x) u L1 := hres.mono hT.res.1 (fun b hb => .inr hb)
      -- the end, from a state in which the box is laid anew
      have fin : ∀ H1 : Heap, Rel P X ⟨(σ.kill (ks ++ gs)).env, H1⟩ a w' φ (fun b => G b ∨ G' b) (fun b => (M b ∧ ¬ D b) ∨ b ∈ blks (L1 ++ L2) ++ (bs.map fun k => (φ k).blk)) →
          (∀ k, k ∉ bs → hget H1 k = hget (σ.kill (ks ++ gs)).heap k) → (∀ k ob, hget H1 k = some ob → alloc φ k ob → (k ∈ bs ∨ ¬ D (φ k).blk) ∧ (φ k).blk < w.heap.size) →
          ((bs = [] ∧ L2 = []) ∨ ∃ kb cs, bs = [kb] ∧ hget H1 kb = some (.box cs) ∧ RC P fn.bk G' w' (fn.bf x) (match w'.heap[(φ kb).blk]? with | some (.cells c _ _) => c.toList | _ => []) L2 ∧ ∃ c e, w'.heap[(φ kb).blk]? = some (.cells c e (0, 0))) →
          next (a.put o.dst u) w' := by
        intro H1 hR1 hsame hobjs hlast
        have hbin : ∀ k ∈ bs, ∃ cs, hget σ.heap k = some (.box cs) := fun k hk => hbox k (List.mem_append_right _ hk)
        have hnone : ∀ k, k ∈ ((ofResM (10000 + 100 * d) fn.r (fn.f x)).2 ++ (cellsO (20000000 + 100 * d) fn.bk (fn.bf x)).2).map (·.1) → hget H1 k = none := by
          intro k hk'
          have h0 := hasAny_iff.1 hany k hk'
          have hkb : k ∉ bs := fun hm => by
            obtain ⟨cs, hc⟩ := hbin k hm
            rw [h0] at hc; cases hc
          rw [hsame k hkb]
          cases hq : hget (σ.kill (ks ++ gs)).heap k with
          | none => rfl
          | some ob =>
            obtain ⟨_, o0, h1, _⟩ := kill_get (φ := φ) hq
            rw [h0] at h1; cases h1
        have hany1 : hasAny H1 ((ofResM (10000 + 100 * d) fn.r (fn.f x)).2 ++ (cellsO (20000000 + 100 * d) fn.bk (fn.bf x)).2) = false := hasAny_iff.2 hnone
        obtain ⟨f1, f2, f3, f4⟩ := fresh_right hany1 hrn
        rw [List.nodup_append] at hnd2
        have hvac : Vac φ (fun b => (M b ∧ ¬ D b) ∨ b ∈ blks (L1 ++ L2) ++ (bs.map fun k => (φ k).blk)) H1 (L1 ++ L2) := by
          refine ⟨fun L hL hc => ⟨.inr (List.mem_append_left _ (mem_blks.2 ⟨L, hL, hc, rfl⟩)), fun k ob hkk ha e => ?_⟩, hnd2.1⟩
          have hin : L.blk ∈ blks (L1 ++ L2) := mem_blks.2 ⟨L, hL, hc, rfl⟩
          obtain ⟨hor, hlt⟩ := hobjs k ob hkk ha
          rcases (hO L.blk (List.mem_append_left _ hin)).1 with hge | hd
          · omega
          · rcases hor with hb | hnd
            · exact hnd2.2.2 L.blk hin (φ k).blk (List.mem_map.2 ⟨k, hb, rfl⟩) e.symm
            · exact hnd (e ▸ hd)
        obtain ⟨φ1, a1, a2, a3, a4⟩ := ofResM_sound (k := 10000 + 100 * d) hT.res.1 hR1 f1 f2 hres2 hvac.left
        have hputs : (St.kill ⟨σ.env, frzH σ.heap []⟩ (ks ++ gs)) = σ.kill (ks ++ gs) := rfl
        rcases hlast with ⟨rfl, rfl⟩ | ⟨kb, cs, rfl, hkb, hrc, hcell⟩
        · -- no box
          have hu : fn.bk = .unit := hbk rfl
          have hc0 : (cellsO (20000000 + 100 * d) fn.bk (fn.bf x)).2 = [] := by
            generalize fn.bf x = y
            revert y
            rw [hu]
            intro y; rfl
          have hsm : ∀ k, hget H1 k = hget (σ.kill (ks ++ gs)).heap k := fun k => hsame k (by simp)
          have hfin : ∀ k, hget (putAll (σ.kill (ks ++ gs)).heap (((ofResM (10000 + 100 * d) fn.r (fn.f x)).2 ++ (cellsO (20000000 + 100 * d) fn.bk (fn.bf x)).2) ++ [])) k = hget (putAll H1 (ofResM (10000 + 100 * d) fn.r (fn.f x)).2) k := by
            intro k
            rw [hc0, List.append_nil, List.append_nil]
            generalize (ofResM (10000 + 100 * d) fn.r (fn.f x)).2 = ps
            have : ∀ (ps : List (Nat × Obj)) (A B : Heap), (∀ k, hget A k = hget B k) → ∀ k, hget (putAll A ps) k = hget (putAll B ps) k := by
              intro ps
              induction ps with
              | nil => intro A B h k; exact h k
              | cons p ps ih => intro A B h k; exact ih _ _ (fun j => by rw [hget_hput, hget_hput, h j]) k
            exact this ps _ _ (fun k => (hsm k).symm) k
          obtain ⟨b1, b2⟩ := a1.congr hfin
          exact hk w' u φ1 _ _ b1 (b2 _ _ a2)
        · obtain ⟨c, e, hce⟩ := hcell
          rw [hce] at hrc
          have hrc2 : RC P fn.bk (fun b => G b ∨ G' b) w' (fn.bf x) c.toList L2 := RC.mono hT.res.2 hrc (fun b hb => .inr hb) (fun _ _ => rfl) (fun _ _ _ => rfl)
          obtain ⟨φ2, c1, c2, c3, c4⟩ := cellsO_sound (k := 20000000 + 100 * d) (σ := ⟨(σ.kill (ks ++ gs)).env, putAll H1 (ofResM (10000 + 100 * d) fn.r (fn.f x)).2⟩) hT.res.2 a1 f3 f4 hrc2 (hvac.right a4)
          have hkbn : kb ∉ ((ofResM (10000 + 100 * d) fn.r (fn.f x)).2 ++ (cellsO (20000000 + 100 * d) fn.bk (fn.bf x)).2).map (·.1) := fun hm => by rw [hnone kb hm] at hkb; cases hkb
          have hkb2 : hget (putAll (putAll H1 (ofResM (10000 + 100 * d) fn.r (fn.f x)).2) (cellsO (20000000 + 100 * d) fn.bk (fn.bf x)).2) kb = some (.box cs) := by
            rw [← putAll_app, hget_putAll_ne hkbn]; exact hkb
          -- where the box stands
          have hphi : (φ2 kb).blk = (φ kb).blk := by
            have hold := a4.trans c4
            rcases hold kb _ hkb2 trivial with ⟨L, hL, hc, e1⟩ | ⟨_, _, e1⟩
            · exfalso
              have hob := c1.heap.obj kb _ hkb2
              simp only [RObj] at hob
              -- the old pointer still names it
              have hp : RA P φ (fun b => G b ∨ G' b) (fun b => (M b ∧ ¬ D b) ∨ b ∈ blks (L1 ++ L2) ++ ([kb].map fun k => (φ k).blk)) w' H1 (.pn kb (φ kb).blk) undef := by
                simp only [RA, hkb]; exact ⟨trivial, trivial⟩
              have hp2 := c3 _ _ (a3 _ _ hp)
              simp only [RA] at hp2
              exact hnd2.2.2 L.blk (mem_blks.2 ⟨L, hL, hc, rfl⟩) (φ kb).blk (by simp) (by rw [← e1]; exact hp2.1)
            · exact e1
          have hM2 : (fun b => (M b ∧ ¬ D b) ∨ b ∈ blks (L1 ++ L2) ++ ([kb].map fun k => (φ k).blk)) (φ2 kb).blk := by
            rw [hphi]; exact .inr (List.mem_append_right _ (by simp))
          have hwr := c1.wr hkb2 trivial hM2 (OneB.refl _ _) (.box (cellsO (20000000 + 100 * d) fn.bk (fn.bf x)).1) trivial (fun E => by
            simp only [RObj]
            exact ⟨c, e, by rw [hphi]; exact hce, hM2, RAL.mono E _ _ c2⟩)
          have hfin : ∀ k, hget (putAll (σ.kill (ks ++ gs)).heap (((ofResM (10000 + 100 * d) fn.r (fn.f x)).2 ++ (cellsO (20000000 + 100 * d) fn.bk (fn.bf x)).2) ++ [(kb, .box (cellsO (20000000 + 100 * d) fn.bk (fn.bf x)).1)])) k =
              hget (hput (putAll (putAll H1 (ofResM (10000 + 100 * d) fn.r (fn.f x)).2) (cellsO (20000000 + 100 * d) fn.bk (fn.bf x)).2) kb (.box (cellsO (20000000 + 100 * d) fn.bk (fn.bf x)).1)) k := by
            intro k
            rw [putAll_app]
            show hget (hput (putAll _ (_ ++ _)) kb _) k = _
            rw [hget_hput, hget_hput]
            split
            · rfl
            · rename_i hne
              rw [← putAll_app]
              generalize (ofResM (10000 + 100 * d) fn.r (fn.f x)).2 ++ (cellsO (20000000 + 100 * d) fn.bk (fn.bf x)).2 = ps
              have : ∀ (ps : List (Nat × Obj)) (A B : Heap) (k : Nat), (hget A k = hget B k) → hget (putAll A ps) k = hget (putAll B ps) k := by
                intro ps
                induction ps with
                | nil => intro A B k h; exact h
                | cons p ps ih => intro A B k h; exact ih _ _ k (by rw [hget_hput, hget_hput, h])
              exact this ps _ _ k (hsame k (by simpa using hne)).symm
          obtain ⟨b1, b2⟩ := hwr.congr hfin
          have E2 : ∀ v u, RA P φ2 (fun b => G b ∨ G' b) (fun b => (M b ∧ ¬ D b) ∨ b ∈ blks (L1 ++ L2) ++ ([kb].map fun k => (φ k).blk)) w' (putAll (putAll H1 (ofResM (10000 + 100 * d) fn.r (fn.f x)).2) (cellsO (20000000 + 100 * d) fn.bk (fn.bf x)).2) v u →
              RA P φ2 (fun b => G b ∨ G' b) (fun b => (M b ∧ ¬ D b) ∨ b ∈ blks (L1 ++ L2) ++ ([kb].map fun k => (φ k).blk)) w' (hput (putAll (putAll H1 (ofResM (10000 + 100 * d) fn.r (fn.f x)).2) (cellsO (20000000 + 100 * d) fn.bk (fn.bf x)).2) kb (.box (cellsO (20000000 + 100 * d) fn.bk (fn.bf x)).1)) v u := by
            have E : Ext φ2 φ2 (fun b => G b ∨ G' b) (fun b => G b ∨ G' b) (fun b => (M b ∧ ¬ D b) ∨ b ∈ blks (L1 ++ L2) ++ ([kb].map fun k => (φ k).blk)) (fun b => (M b ∧ ¬ D b) ∨ b ∈ blks (L1 ++ L2) ++ ([kb].map fun k => (φ k).blk)) w' w' (putAll (putAll H1 (ofResM (10000 + 100 * d) fn.r (fn.f x)).2) (cellsO (20000000 + 100 * d) fn.bk (fn.bf x)).2) (hput (putAll (putAll H1 (ofResM (10000 + 100 * d) fn.r (fn.f x)).2) (cellsO (20000000 + 100 * d) fn.bk (fn.bf x)).2) kb (.box (cellsO (20000000 + 100 * d) fn.bk (fn.bf x)).1)) :=
              { g := fun b hb => hb, ag := fun _ _ => rfl, keep := fun _ _ _ => rfl, keys := fun j p hj => by
                  refine ⟨rfl, ?_⟩
                  by_cases e : j = kb
                  · subst e
                    rw [hkb2] at hj; cases hj
                    exact ⟨_, hget_hput_self _ _ _, trivial⟩
                  · exact ⟨p, by rw [hget_hput_ne _ _ _ _ e]; exact hj, by cases p <;> simp [shape]⟩
                mt := fun _ _ hm => hm, size := Nat.le_refl _ }
            exact fun v u hv => RA.mono E v u hv
          exact hk w' u φ2 _ _ b1 (b2 _ _ (E2 _ _ (c3 _ _ a2)))
      -- the two cases
      match bs, hbx, hbxm, hno, hO, fin, hnd, hbox, hnd2 with
      | [], _, hbxm, hno, hO, fin, hnd, hbox, hnd2 =>
        simp only [List.map_nil, BoxM] at hbxm
        obtain ⟨hR, _⟩ := hk1.callG G' (fun b => b ∈ blks (L1 ++ L2) ++ (([] : List Nat).map fun k => (φ k).blk)) D hDM2 hw hkeep hG' hO (σ.kill (ks ++ gs)).heap (fun k ob hkk => ⟨ob, hkk, by cases ob <;> simp [shape]⟩)
          (fun E k ob hkk => (hk1.heap.obj k ob hkk).mono2 E rfl (fun ha => hkeep _ (RObj.lt hk1.heap hkk ha) (fun hd => by have := hno k ob hkk ha hd; cases this)) (fun ha hm => .inl ⟨hm, fun hd => by have := hno k ob hkk ha hd; cases this⟩))
          (fun k o' hkk ha => ⟨o', hkk, ha⟩)
        exact fin _ hR (fun _ _ => rfl) (fun k ob hkk ha => ⟨.inr (fun hd => by have := hno k ob hkk ha hd; cases this), RObj.lt hk1.heap hkk ha⟩) (.inl ⟨rfl, hbxm⟩)
      | [kb], _, hbxm, hno, hO, fin, hnd, hbox, hnd2 =>
        simp only [List.map_cons, List.map_nil, BoxM] at hbxm
        obtain ⟨c, e, hce, hrc⟩ := hbxm
        have hkbn : kb ∉ ks ++ gs := by
          rw [← List.append_assoc, List.nodup_append] at hnd
          exact fun hm => hnd.2.2 kb hm kb (by simp) rfl
        obtain ⟨cs0, hcs0⟩ := hbox kb (List.mem_append_right _ (by simp))
        obtain ⟨cs1, hcs1⟩ := kill_box hkbn hcs0
        obtain ⟨hR, _⟩ := hk1.callG G' (fun b => b ∈ blks (L1 ++ L2) ++ ([kb].map fun k => (φ k).blk)) D hDM2 hw hkeep hG' hO (hput (σ.kill (ks ++ gs)).heap kb (.box (List.replicate c.size .undef)))
          (fun k ob hkk => by
            by_cases e : k = kb
            · subst e
              rw [hcs1] at hkk; cases hkk
              exact ⟨_, hget_hput_self _ _ _, trivial⟩
            · exact ⟨ob, by rw [hget_hput_ne _ _ _ _ e]; exact hkk, by cases ob <;> simp [shape]⟩)
          (fun E k ob hkk => by
            by_cases ek : k = kb
            · subst ek
              rw [hget_hput_self] at hkk; cases hkk
              simp only [RObj]
              exact ⟨c, e, hce, .inr (List.mem_append_right _ (by simp)), RAL_undef (by simp)⟩
            · rw [hget_hput_ne _ _ _ _ ek] at hkk
              have hnd' : alloc φ k ob → ¬ D (φ k).blk := fun ha hd => by
                have := hno k ob hkk ha hd
                simp only [List.mem_singleton] at this
                exact ek this
              exact (hk1.heap.obj k ob hkk).mono2 E rfl (fun ha => hkeep _ (RObj.lt hk1.heap hkk ha) (hnd' ha)) (fun ha hm => .inl ⟨hm, hnd' ha⟩))
          (fun k o' hkk ha => by
            by_cases ek : k = kb
            · subst ek; exact ⟨_, hcs1, trivial⟩
            · rw [hget_hput_ne _ _ _ _ ek] at hkk; exact ⟨o', hkk, ha⟩)
        refine fin _ hR (fun k hkk => hget_hput_ne _ _ _ _ (by simpa using hkk)) (fun k ob hkk ha => ?_) (.inr ⟨kb, _, rfl, hget_hput_self _ _ _, by rw [hce]; exact hrc, c, e, hce⟩)
        by_cases ek : k = kb
        · subst ek; exact ⟨.inl (by simp), RObj.lt hk1.heap hcs1 trivial⟩
        · rw [hget_hput_ne _ _ _ _ ek] at hkk
          exact ⟨.inr (fun hd => by have := hno k ob hkk ha hd; simp only [List.mem_singleton] at this; exact ek this), RObj.lt hk1.heap hkk ha⟩
    · cases hr
  · cases hr
end
end Go.AM

set_option linter.unusedSimpArgs false
namespace Go.AM
open Go.RowKit
section
variable {P : Program} {TT : TyTab} {N : Nat} {rowAt : List Nat} {X : Ctx} {σ : St} {a : Act} {w : World} {φ : Nat → Loc} {G M : Nat → Prop} {o : Oper} {next : Act → World → Prop} {Q : Exit → Act → World → Prop}
theorem HoldsX.callable {f : Nat} {fn : Fn} (h : HoldsX P f fn) : Callable P f := by
  unfold HoldsX at h
  split at h
  · exact h.code
  · exact h.code
/-- A call of a function that is known. -/
theorem sound_callF {T : Tab} (hT : TabOK P T) (h : Rel P X σ a w φ G M) {d f : Nat} {vs : List AV} {args : Array Value} (hx : (execOp a.eval o).run P w = .ok (.enter f args) w)
    (hv : ∀ {σ' : St} {G' M' : Nat → Prop}, σ'.env = σ.env → Rel P X σ' a w φ G' M' → RAL P φ G' M' w σ'.heap vs args.toList) {need : Prop} {v : AV} {e : Eff} (hr : callF T d f σ.heap vs = .ok need v e) (hn : need)
    (hk : Cont P X σ e v a o next) : o.wp P a w next Q := by
  unfold callF at hr
  split at hr
  · rename_i fn hfn
    have hTX := hT f fn hfn
    unfold HoldsX at hTX
    split at hr
    · rename_i hkd
      rw [hkd] at hTX
      have hTf : Holds P f fn := hTX
      split at hr
      · rename_i x hxa
        unfold Oper.wp
        rw [hx]
        have hneed : need = fn.pre x := by
          unfold callR at hr
          split at hr
          · cases hr
          · cases hr; rfl
        refine call_cont hr hTf.res h (fun hn G1 hb hG hm => ?_) hn hk
        have ha : RArgs P fn.a G1 w x args.toList := by
          rcases hm with hm | ⟨hnr, σ', M', he, hR, hs, hfz⟩
          · exact toArgs_sound hT h.heap hG (.inl hm) (hv rfl h) hxa
          · exact toArgs_sound hT hR.heap (fun _ h => h) (.inr ⟨hnr, hfz.sub (flatKeys_sub σ.heap vs)⟩) (hv he hR) (by rw [toArgs_same hs]; exact hxa)
        exact hTf.calls w G1 x args.toList (by rw [← hneed]; exact hn) hb ha
      · cases hr
    · rename_i ms hkd
      rw [hkd] at hTX
      exact sound_callM hTX h hx (hv rfl h) hr hn hk
  · cases hr
end
end Go.AM
