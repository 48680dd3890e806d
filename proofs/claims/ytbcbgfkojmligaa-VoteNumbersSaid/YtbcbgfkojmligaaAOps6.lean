import Derived.Test.YtbcbgfkojmligaaAOps5
import Derived.Laws.MakeOwn
/- Part of an abstract machine for Go code and of its soundness, for any program of the model; no condition. -/
set_option linter.unusedVariables false
set_option linter.unusedSimpArgs false
set_option linter.unusedSimpArgs false
namespace Go.AM
open Go.RowKit
section
variable {P : Program} {TT : TyTab} {N : Nat} {rowAt : List Nat} {X : Ctx} {σ : St} {a : Act} {w : World} {φ : Nat → Loc} {G M : Nat → Prop} {o : Oper} {next : Act → World → Prop} {Q : Exit → Act → World → Prop}

theorem zerosAre_append : ∀ {as bs : List AV} {us : List Value}, zerosAre (as ++ bs) us = true → ∃ u1 u2, us = u1 ++ u2 ∧ zerosAre as u1 = true ∧ zerosAre bs u2 = true := by
  intro as
  induction as with
  | nil => intro bs us h; exact ⟨[], us, rfl, rfl, h⟩
  | cons c as ih =>
    intro bs us h
    cases us with
    | nil => simp [zerosAre] at h
    | cons u us =>
      simp only [List.cons_append, zerosAre, Bool.and_eq_true] at h
      obtain ⟨u1, u2, rfl, h1, h2⟩ := ih h.2
      exact ⟨u :: u1, u2, rfl, by simp [zerosAre, h.1, h1], h2⟩

/-- The zero of a type, read. -/
theorem zero_RT {t : Ty} : ∀ {us : List Value}, plain t = true → noRef t = true → zerosAre (zcells t) us = true → RT P t G w (dflt t) us := by
  induction t with
  | int k =>
    intro us _ _ h
    cases us with
    | nil => simp [zcells, zerosAre] at h
    | cons u us =>
      cases us with
      | nil =>
        simp only [zcells, zerosAre, Bool.and_true] at h
        unfold zeroIs at h
        split at h <;> simp_all [RT, dflt]
      | cons v us => simp [zcells, zerosAre] at h
  | bool =>
    intro us _ _ h
    cases us with
    | nil => simp [zcells, zerosAre] at h
    | cons u us =>
      cases us with
      | nil =>
        simp only [zcells, zerosAre, Bool.and_true] at h
        unfold zeroIs at h
        split at h <;> simp_all [RT, dflt]
      | cons v us => simp [zcells, zerosAre] at h
  | str =>
    intro us _ _ h
    cases us with
    | nil => simp [zcells, zerosAre] at h
    | cons u us =>
      cases us with
      | nil =>
        simp only [zcells, zerosAre, Bool.and_true] at h
        unfold zeroIs at h
        split at h
        · cases ‹AV.str _ = AV.int _ _›
        · cases ‹AV.str _ = AV.bool _›
        · rename_i s s' he
          simp only [Bool.and_eq_true, beq_iff_eq] at h
          simp only [RT, dflt]
          have e1 : s'.data = #[] := Array.eq_empty_of_size_eq_zero h.2
          cases s'; simp_all
        · cases ‹AV.str _ = AV.sl _ _ _›
        · cases ‹AV.str _ = AV.undef›
        · cases h
      | cons v us => simp [zcells, zerosAre] at h
  | list t _ =>
    intro us _ _ h
    cases us with
    | nil => simp [zcells, zerosAre] at h
    | cons u us =>
      cases us with
      | nil =>
        simp only [zcells, zerosAre, Bool.and_true] at h
        unfold zeroIs at h
        split at h <;> simp_all [RT, dflt]
      | cons v us => simp [zcells, zerosAre] at h
  | olist t _ =>
    intro us _ _ h
    cases us with
    | nil => simp [zcells, zerosAre] at h
    | cons u us =>
      cases us with
      | nil =>
        simp only [zcells, zerosAre, Bool.and_true] at h
        unfold zeroIs at h
        split at h <;> simp_all [RT, dflt]
      | cons v us => simp [zcells, zerosAre] at h
  | unit => intro us _ _ h; cases us with
    | nil => simp only [RT]
    | cons u us => simp [zcells, zerosAre] at h
  | pair a b iha ihb =>
    intro us hp hn h
    simp only [plain, Bool.and_eq_true] at hp
    simp only [noRef, Bool.and_eq_true] at hn
    simp only [zcells] at h
    obtain ⟨u1, u2, rfl, h1, h2⟩ := zerosAre_append h
    simp only [RT]
    exact ⟨u1, u2, rfl, iha hp.1 hn.1 h1, ihb hp.2 hn.2 h2⟩
  | fn a r _ _ => intro us hp; simp [plain] at hp
  | ref t _ => intro us _ hn; simp [noRef] at hn

theorem zerosAre_len : ∀ {as : List AV} {us : List Value}, zerosAre as us = true → us.length = as.length := by
  intro as
  induction as with
  | nil => intro us h; cases us with
    | nil => rfl
    | cons u us => simp [zerosAre] at h
  | cons c as ih => intro us h; cases us with
    | nil => simp [zerosAre] at h
    | cons u us => simp only [zerosAre, Bool.and_eq_true] at h; simp [ih h.2]

theorem zcells_len (t : Ty) : (zcells t).length = size t := by
  induction t <;> simp_all [zcells, size]

/-- A new row of one's own. -/
theorem row_cont (h : Rel P X σ a w φ G M) {d : Nat} {t : Ty} {xs : List (den t)} {cells : Array Value} {e : TypeId} {w' : World} {cap : Nat} (hd : hget σ.heap d = none) (hn : NewB w w' (.cells cells e))
    (hpl : plain t = true) (hz : 0 < size t) (hm : cap ≤ 9223372036854775807) (hs : cap * size t ≤ cells.size) (hl : xs.length ≤ cap) (hc : ∀ i, (hi : i < xs.length) → RT P t G w xs[i] ((cells.toList.drop (i * size t)).take (size t))) :
    ∃ φ' G' M', Rel P X ⟨σ.env, hput σ.heap d (.row t xs false)⟩ a w' φ' G' M' ∧ φ' d = ⟨if cap = 0 then 0 else w.heap.size, 0, cap⟩ := by
  by_cases h0 : cap = 0
  · subst h0
    have hx : xs = [] := List.eq_nil_of_length_eq_zero (by omega)
    subst hx
    have h1 := (h.ro hn).newNo d t false hpl hz hd
    exact ⟨_, _, _, h1, by simp [setφ]⟩
  · have h1 := h.new hn d (.row t xs false) ⟨w.heap.size, 0, cap⟩ hd rfl (fun φ' G' M' H' E e1 e2 => by
      simp only [RObj, e1]
      refine ⟨⟨hpl, hz, .inr ⟨cells, e, by show 0 < cap; omega, hm, hn.new, by simpa using hs, hl, fun i hi => ?_⟩⟩, fun _ => ⟨fun hf => (by cases hf), fun _ => e2⟩⟩
      simpa using (hc i hi).mono hpl E.g E.ag)
    exact ⟨_, _, _, h1, by simp [setφ, h0]⟩

theorem own_all {φ' : Nat → Loc} {G' M' : Nat → Prop} {w' : World} {H : Heap} {d : Nat} {t : Ty} {xs : List (den t)} {f : Bool} {cap b : Nat} (hφ : φ' d = ⟨if cap = 0 then 0 else b, 0, cap⟩) (hl : xs.length ≤ cap) (n : Nat) (hn : n ≤ xs.length) :
    RA P φ' G' M' w' (hput H d (.row t xs f)) (.own d 0 n) (.slice (some ⟨b, 0, none⟩) n cap) := by
  simp only [RA, hget_hput_self]
  refine ⟨by omega, some ⟨b, 0, none⟩, by rw [hφ]; simp, by rw [hφ]; simp; omega, ?_⟩
  rw [hφ]
  by_cases h0 : cap = 0
  · left; simp [h0]
  · right; simp [h0]

theorem madeCells_get (z : Array Value) (n i : Nat) (hz : 0 < z.size) (hi : i < n) : (((Array.range (n * z.size)).map (z[· % z.size]!)).toList.drop (i * z.size)).take z.size = z.toList := by
  apply List.ext_getElem?
  intro j
  rw [List.getElem?_take]
  split
  · rename_i hj
    rw [List.getElem?_drop]
    have hlt : i * z.size + j < n * z.size := by
      have : (i + 1) * z.size ≤ n * z.size := Nat.mul_le_mul_right _ hi
      rw [Nat.add_mul] at this
      omega
    have hmod : (i * z.size + j) % z.size = j := by rw [Nat.mul_comm, Nat.mul_add_mod, Nat.mod_eq_of_lt hj]
    simp [hlt, hmod, hj]
  · rename_i hj
    rw [List.getElem?_eq_none (by simp; omega)]

theorem sound_mks (h : Rel P X σ a w φ G M) {t e : TypeId} {x y : Operand} (ho : o.op = .makeSlice t x y) (hu : P.underlying t = some (.slice e)) {ty : Ty} (hpl : plain ty = true) (hnr : noRef ty = true) (hc : P.cellsOf e = size ty) (h0 : 0 < size ty)
    (hz : hasZero P e = true) (hza : zerosAre (zcells ty) (zeroOf P e) = true) {l c : Int} (hx : RA P φ G M w σ.heap (.int .i64 l) (a.eval x)) (hy : RA P φ G M w σ.heap (.int .i64 c) (a.eval y)) {d : Nat} (hd : hget σ.heap d = none)
    (hn : 0 ≤ l ∧ l ≤ c ∧ c ≤ 140737488355328 ∧ c * (P.bytesOf e : Int) ≤ 140737488355328)
    (hk : Cont P X σ { put := [(d, .row ty (List.replicate l.toNat (dflt ty)) false)] } (.own d 0 l.toNat) a o next) : o.wp P a w next Q := by
  simp only [RA] at hx hy
  obtain ⟨h1, h2, h3, h4⟩ := hn
  obtain ⟨z, hzr, hzc⟩ := zero_run (P := P) (w := w) hz
  obtain ⟨i, hi, his⟩ := info_of_cells (P := P) (t := e) (by omega)
  have hib : i.bytes = P.bytesOf e := by simp [Program.bytesOf, hi]
  have hwl : IntKind.i64.wrap l = l := wrap_in (by simp [InR, IntKind.min, IntKind.max, IntKind.signed, IntKind.bits]; omega)
  have hwc : IntKind.i64.wrap c = c := wrap_in (by simp [InR, IntKind.min, IntKind.max, IntKind.signed, IntKind.bits]; omega)
  have hzl : z.cells.size = size ty := by
    have := zerosAre_len hza
    rw [zcells_len, ← hzc] at this
    simpa using this
  let cells : Array Value := (Array.range (c.toNat * size ty)).map ((if c.toNat * size ty = 0 then #[] else z.cells)[· % (if c.toNat * size ty = 0 then #[] else z.cells).size]!)
  obtain ⟨w', hrun, hnb⟩ := newB_run (P := P) (w := w) (cells := cells) (t := e)
  have hex : (execOp a.eval o).run P w = .ok (.value (.slice (some ⟨w.heap.size, 0, none⟩) l.toNat c.toNat)) w' := by
    have hbb : (i.bytes : Int) * c ≤ 281474976710656 := by rw [hib, Int.mul_comm]; omega
    have hng : ¬ (c < 0) := by omega
    have hng2 : ¬ (281474976710656 < (i.bytes : Int) * c) := by omega
    have hng3 : ¬ (l < 0) := by omega
    have hng4 : ¬ (c < l) := by omega
    have hsr : (Go.sizeOf e).run P w = .ok (size ty) w := by rw [← hc]; exact size_run (by omega)
    by_cases h00 : c.toNat * size ty = 0
    · have hcells : cells = (Array.range (c.toNat * size ty)).map ((#[] : Array Value)[· % (#[] : Array Value).size]!) := by simp only [cells, h00, if_true]
      simp only [execOp, ho, Instr.makeSlice, Sem.run_bind, underlying, run_program, Result.andThen_ok, hu, Sem.run_pure, asInt, asIntOf, hx, hy, typeInfo, hi, hwl, hwc]
      simp only [show (c < 0) = False from eq_false hng, decide_false, Bool.false_or, gt_iff_lt, Int.reducePow, show (281474976710656 < (i.bytes : Int) * c) = False from eq_false hng2, show (l < 0) = False from eq_false hng3, show (c < l) = False from eq_false hng4, Bool.or_self, Bool.false_eq_true, if_false, Sem.run_bind, Sem.run_pure, Result.andThen_ok, run_askRoom, hsr, if_pos h00]
      rw [← hcells, hrun]
      rfl
    · have hcells : cells = (Array.range (c.toNat * size ty)).map (z.cells[· % z.cells.size]!) := by simp only [cells, h00, if_false]
      simp only [execOp, ho, Instr.makeSlice, Sem.run_bind, underlying, run_program, Result.andThen_ok, hu, Sem.run_pure, asInt, asIntOf, hx, hy, typeInfo, hi, hwl, hwc]
      simp only [show (c < 0) = False from eq_false hng, decide_false, Bool.false_or, gt_iff_lt, Int.reducePow, show (281474976710656 < (i.bytes : Int) * c) = False from eq_false hng2, show (l < 0) = False from eq_false hng3, show (c < l) = False from eq_false hng4, Bool.or_self, Bool.false_eq_true, if_false, Sem.run_bind, Sem.run_pure, Result.andThen_ok, run_askRoom, hsr, if_neg h00, hzr]
      rw [← hcells, hrun]
      rfl
  unfold Oper.wp
  rw [hex]
  have hcs : cells.size = c.toNat * size ty := by simp [cells]
  obtain ⟨φ', G', M', hR, hφ⟩ := row_cont h (t := ty) (xs := List.replicate l.toNat (dflt ty)) (cap := c.toNat) hd hnb hpl h0 (by omega) (by omega) (by simp; omega) (fun i hi => by
    simp only [List.length_replicate] at hi
    have hc0 : ¬ (c.toNat * size ty = 0) := by
      have : 0 < c.toNat := by omega
      have := Nat.mul_pos this h0
      omega
    have hg := madeCells_get z.cells c.toNat i (by omega) (by omega)
    rw [hzl] at hg
    have hcl : cells.toList = ((Array.range (c.toNat * size ty)).map (z.cells[· % size ty]!)).toList := by simp only [cells, hc0, if_false, hzl]
    rw [hcl, hg, hzc, List.getElem_replicate]
    exact zero_RT hpl hnr hza)
  exact hk w' _ _ _ _ hR (own_all hφ (by simp; omega) _ (by simp))

theorem sound_allocA (h : Rel P X σ a w φ G M) {t e : TypeId} {n : Nat} (ho : o.op = .alloc t) {ty : Ty} (hpl : plain ty = true) (hnr : noRef ty = true) (h0 : 0 < size ty) (hn0 : 0 < n) (hz : hasZero P t = true)
    (hza : zerosAre ((List.replicate n (zcells ty)).flatten) (zeroOf P t) = true) (hn63 : n ≤ 9223372036854775807) {d : Nat} (hd : hget σ.heap d = none)
    (hk : Cont P X σ { put := [(d, .row ty (List.replicate n (dflt ty)) false)] } (.rptr d 0 0) a o next) : o.wp P a w next Q := by
  obtain ⟨z, hzr, hzc⟩ := zero_run (P := P) (w := w) hz
  obtain ⟨w', hrun, hn⟩ := newB_run (P := P) (w := w) (cells := z.cells) (t := t)
  have hex : (execOp a.eval o).run P w = .ok (.value (.pointer (some ⟨w.heap.size, 0, none⟩))) w' := by
    simp only [execOp, ho, Instr.alloc, newVar, Sem.run_bind, hzr, hrun, Result.andThen_ok, Sem.run_pure]
  unfold Oper.wp
  rw [hex]
  have key : ∀ (n : Nat) (us : List Value), zerosAre ((List.replicate n (zcells ty)).flatten) us = true → us.length = n * size ty ∧ ∀ i, i < n → zerosAre (zcells ty) ((us.drop (i * size ty)).take (size ty)) = true := by
    intro n
    induction n with
    | zero => intro us h; cases us with
      | nil => exact ⟨by simp, fun i hi => by omega⟩
      | cons u us => simp [zerosAre] at h
    | succ n ih =>
      intro us h
      rw [List.replicate_succ, List.flatten_cons] at h
      obtain ⟨u1, u2, rfl, h1, h2⟩ := zerosAre_append h
      obtain ⟨h3, h4⟩ := ih u2 h2
      have hl1 : u1.length = size ty := by rw [zerosAre_len h1, zcells_len]
      refine ⟨by simp [hl1, h3, Nat.add_mul]; omega, fun i hi => ?_⟩
      cases i with
      | zero => simp only [Nat.zero_mul, List.drop_zero]; rw [List.take_append_of_le_length (by omega), List.take_of_length_le (by omega)]; exact h1
      | succ i =>
        rw [List.drop_append, show (i + 1) * size ty = size ty + i * size ty by rw [Nat.add_mul]; omega, List.drop_of_length_le (by omega), List.nil_append, hl1, show size ty + i * size ty - size ty = i * size ty by omega]
        exact h4 i (by omega)
  obtain ⟨hlen, hcells⟩ := key n _ hza
  obtain ⟨φ', G', M', hR, hφ⟩ := row_cont h (t := ty) (xs := List.replicate n (dflt ty)) (cap := n) hd hn hpl h0 hn63 (by rw [← Array.length_toList, hzc, hlen]; omega) (by simp) (fun i hi => by
    simp only [List.length_replicate] at hi
    rw [hzc, List.getElem_replicate]
    exact zero_RT hpl hnr (hcells i hi))
  refine hk w' _ _ _ _ hR ?_
  simp only [RA, eff_put1, hget_hput_self, hφ]
  exact ⟨by simpa using hn0, by simp; omega⟩

/-! ### a piece of a slice -/
theorem bound_run (x : Int) (y : Nat) (c : BoundsCode) (hx : 0 ≤ x) (hy : x ≤ y) : (Instr.sliceBound (.int .i64 x) y c).run P w = .ok x.toNat w := by
  simp [Instr.sliceBound, asIntOf, hx, hy]

theorem RAL.one {H : Heap} {k : IntKind} {x : Int} {us : List Value} (h : RAL P φ G M w H [.int k x] us) : us = [.int k x] := by
  simp only [RAL, RA] at h; obtain ⟨u, us', rfl, rfl, rfl⟩ := h; rfl
theorem RAL.two {H : Heap} {k k' : IntKind} {x y : Int} {us : List Value} (h : RAL P φ G M w H [.int k x, .int k' y] us) : us = [.int k x, .int k' y] := by
  simp only [RAL, RA] at h; obtain ⟨u, us', rfl, rfl, u', us'', rfl, rfl, rfl⟩ := h; rfl
theorem RAL.three {H : Heap} {k k' k'' : IntKind} {x y z : Int} {us : List Value} (h : RAL P φ G M w H [.int k x, .int k' y, .int k'' z] us) : us = [.int k x, .int k' y, .int k'' z] := by
  simp only [RAL, RA] at h; obtain ⟨u, us', rfl, rfl, u', us'', rfl, rfl, u3, us3, rfl, rfl, rfl⟩ := h; rfl

theorem bounds_run {n cap : Nat} {lo hi mx : Bool} {vs : List AV} {l h m : Int} (isS : Bool) (hb : bounds n lo hi mx vs = some (l, h, m)) (h0 : 0 ≤ l) (h1 : l ≤ h) (h2 : h ≤ m) (h3 : m ≤ n) (hc : n ≤ cap) {H : Heap}
    {low high max : Option Value} (hr : RAL P φ G M w H vs (low.toList ++ high.toList ++ max.toList)) (hl : low.isSome = lo) (hh : high.isSome = hi) (hm : max.isSome = mx) :
    (Instr.sliceBounds isS n cap low high max).run P w = .ok (l.toNat, h.toNat, if mx then m.toNat else cap) w ∧ (mx = false → m = n) ∧ (hi = false → h = n ∧ mx = false) := by
  unfold bounds at hb
  split at hb
  · simp only [Option.some.injEq, Prod.mk.injEq] at hb
    obtain ⟨rfl, rfl, rfl⟩ := hb
    cases low <;> cases high <;> cases max <;> simp at hl hh hm
    exact ⟨by simp [Instr.sliceBounds], fun _ => rfl, fun _ => ⟨rfl, rfl⟩⟩
  · simp only [Option.some.injEq, Prod.mk.injEq] at hb
    obtain ⟨rfl, rfl, rfl⟩ := hb
    rename_i l
    cases low <;> cases high <;> cases max <;> simp at hl hh hm
    have e := RAL.one hr
    simp only [Option.toList, List.append_nil, List.cons.injEq, and_true] at e
    subst e
    refine ⟨?_, fun _ => rfl, fun _ => ⟨rfl, rfl⟩⟩
    simp [Instr.sliceBounds, bound_run _ _ _ h0 h1]
  · simp only [Option.some.injEq, Prod.mk.injEq] at hb
    obtain ⟨rfl, rfl, rfl⟩ := hb
    rename_i h
    cases low <;> cases high <;> cases max <;> simp at hl hh hm
    have e := RAL.one hr
    simp only [Option.toList, List.append_nil, List.nil_append, List.cons.injEq, and_true] at e
    subst e
    refine ⟨?_, fun _ => rfl, fun hf => by cases hf⟩
    simp [Instr.sliceBounds, bound_run _ _ _ (Int.le_trans h0 h1) (show _ ≤ (cap : Int) by omega)]
  · simp only [Option.some.injEq, Prod.mk.injEq] at hb
    obtain ⟨rfl, rfl, rfl⟩ := hb
    rename_i l h
    cases low <;> cases high <;> cases max <;> simp at hl hh hm
    have e := RAL.two hr
    simp only [Option.toList, List.append_nil, List.cons_append, List.nil_append, List.cons.injEq, and_true] at e
    obtain ⟨rfl, rfl⟩ := e
    refine ⟨?_, fun _ => rfl, fun hf => by cases hf⟩
    simp [Instr.sliceBounds, bound_run _ _ _ (Int.le_trans h0 h1) (show _ ≤ (cap : Int) by omega), bound_run _ _ _ h0 (show l ≤ ((h.toNat : Nat) : Int) by omega)]
  · simp only [Option.some.injEq, Prod.mk.injEq] at hb
    obtain ⟨rfl, rfl, rfl⟩ := hb
    rename_i h m
    cases low <;> cases high <;> cases max <;> simp at hl hh hm
    have e := RAL.two hr
    simp only [Option.toList, List.append_nil, List.cons_append, List.nil_append, List.cons.injEq, and_true] at e
    obtain ⟨rfl, rfl⟩ := e
    refine ⟨?_, fun hf => (by cases hf), fun hf => by cases hf⟩
    simp [Instr.sliceBounds, bound_run _ _ _ (show (0 : Int) ≤ m by omega) (show m ≤ (cap : Int) by omega), bound_run _ _ _ (show (0 : Int) ≤ h by omega) (show h ≤ ((m.toNat : Nat) : Int) by omega)]
  · simp only [Option.some.injEq, Prod.mk.injEq] at hb
    obtain ⟨rfl, rfl, rfl⟩ := hb
    rename_i l h m
    cases low <;> cases high <;> cases max <;> simp at hl hh hm
    have e := RAL.three hr
    simp only [Option.toList, List.append_nil, List.cons_append, List.nil_append, List.cons.injEq, and_true] at e
    obtain ⟨rfl, rfl, rfl⟩ := e
    refine ⟨?_, fun hf => (by cases hf), fun hf => by cases hf⟩
    simp [Instr.sliceBounds, bound_run _ _ _ (show (0 : Int) ≤ m by omega) (show m ≤ (cap : Int) by omega), bound_run _ _ _ (show (0 : Int) ≤ h by omega) (show h ≤ ((m.toNat : Nat) : Int) by omega), bound_run _ _ _ h0 (show l ≤ ((h.toNat : Nat) : Int) by omega)]
  · cases hb

theorem bounds_m {n : Nat} {lo hi : Bool} {vs : List AV} {l h m : Int} (hb : bounds n lo hi false vs = some (l, h, m)) : m = n := by
  cases lo <;> cases hi <;> unfold bounds at hb <;> split at hb <;> simp_all <;> omega

theorem slc_run {t e : TypeId} {x : Operand} {lo hi mx : Option Operand} (ho : o.op = .slice t x lo hi mx) (hu : P.underlying t = some (.slice e)) {A : Option Addr} {len cap l h m : Nat} (hx : a.eval x = .slice A len cap) (h0 : 0 < P.cellsOf e)
    (hb : (Instr.sliceBounds true len cap (lo.map a.eval) (hi.map a.eval) (mx.map a.eval)).run P w = .ok (l, h, m) w) :
    (execOp a.eval o).run P w = .ok (.value (.slice (if m = l then A else A.map (·.add (l * P.cellsOf e))) (h - l) (m - l))) w := by
  simp only [execOp, ho, Instr.sliceAt, Instr.slice, Sem.run_bind, underlying, run_program, Result.andThen_ok, hu, Sem.run_pure, hx, hb, size_run h0]

theorem sound_slc_sl (hR : Rel P X σ a w φ G M) {t e : TypeId} {x : Operand} {lo hi mx : Option Operand} (ho : o.op = .slice t x lo hi mx) (hu : P.underlying t = some (.slice e)) {ty : Ty} {xs : List (den ty)} {full : Bool} (hS : size ty = P.cellsOf e)
    (hx : RA P φ G M w σ.heap (.sl ty xs full) (a.eval x)) {vs : List AV} (hvs : RAL P φ G M w σ.heap vs ((lo.map a.eval).toList ++ (hi.map a.eval).toList ++ (mx.map a.eval).toList)) {l h m : Int} (hb : bounds xs.length lo.isSome hi.isSome mx.isSome vs = some (l, h, m))
    (hn : 0 ≤ l ∧ l ≤ h ∧ h ≤ m ∧ m ≤ xs.length) (hk : Cont P X σ {} (.sl ty ((xs.take h.toNat).drop l.toNat) (if mx.isSome then decide (h = m) else if hi.isSome then false else full)) a o next) : o.wp P a w next Q := by
  simp only [RA, RT] at hx
  obtain ⟨hpl, hz, ⟨A, c, hx, hlc, hne⟩, hfull⟩ := hx
  simp only [List.cons.injEq, and_true] at hx
  obtain ⟨hbr, hm1, hm2⟩ := bounds_run (P := P) (w := w) (cap := c) true hb hn.1 hn.2.1 hn.2.2.1 hn.2.2.2 hlc hvs (by cases lo <;> rfl) (by cases hi <;> rfl) (by cases mx <;> rfl)
  have hrun := slc_run (P := P) (w := w) ho hu hx (by omega) hbr
  refine wp_value hR hrun ?_ hk
  have hlen : ((xs.take h.toNat).drop l.toNat).length = h.toNat - l.toNat := by simp; omega
  simp only [RA]
  refine ⟨hpl, hz, ?_, fun hf => ?_⟩
  · simp only [RT]
    refine ⟨_, (if mx.isSome then m.toNat else c) - l.toNat, by rw [hlen], by rw [hlen]; split <;> omega, ?_⟩
    rcases hne with rfl | ⟨ad, rfl, hs, hg, hcells⟩
    · left; simp
    · by_cases hlh : h.toNat ≤ l.toNat
      · left
        exact List.eq_nil_of_length_eq_zero (by rw [hlen]; omega)
      · right
        obtain ⟨b, ob, sp⟩ := ad
        simp only at hs hg hcells
        subst hs
        have hne' : (if mx.isSome then m.toNat else c) ≠ l.toNat := by split <;> omega
        rw [if_neg hne']
        refine ⟨⟨b, ob + l.toNat * P.cellsOf e, none⟩, by simp [addr_add], rfl, hg, fun i hi => ?_⟩
        rw [hlen] at hi
        obtain ⟨cs, h1, h2, h3⟩ := hcells (l.toNat + i) (by omega)
        refine ⟨cs, h1, by simpa [List.getElem_drop, List.getElem_take] using h2, fun j u hj => ?_⟩
        have := h3 j u hj
        rw [← hS]
        rwa [show ob + ((l.toNat + i) * size ty + j) = ob + l.toNat * size ty + (i * size ty + j) by rw [Nat.add_mul]; omega] at this
  · rw [hlen]
    have hc2 : (if mx.isSome then m.toNat else c) - l.toNat = h.toNat - l.toNat := by
      cases hmx : mx.isSome with
      | true =>
        simp only [hmx, if_true, decide_eq_true_eq] at hf ⊢
        omega
      | false =>
        cases hhi : hi.isSome with
        | true => simp [hmx, hhi] at hf
        | false =>
          simp only [hmx, hhi, Bool.false_eq_true, if_false] at hf ⊢
          obtain ⟨A', hA'⟩ := hfull hf
          rw [hx] at hA'
          simp only [Value.slice.injEq] at hA'
          have := hm2 hhi
          omega
    exact ⟨_, by rw [hc2]⟩

theorem sound_slc_own (hR : Rel P X σ a w φ G M) {t e : TypeId} {x : Operand} {lo hi mx : Option Operand} (ho : o.op = .slice t x lo hi mx) (hu : P.underlying t = some (.slice e)) {k lo0 n : Nat} {ty : Ty} {xs : List (den ty)} {f : Bool} (hkk : hget σ.heap k = some (.row ty xs f)) (hS : size ty = P.cellsOf e)
    (hmx : mx.isSome = false) (hx : RA P φ G M w σ.heap (.own k lo0 n) (a.eval x)) {vs : List AV} (hvs : RAL P φ G M w σ.heap vs ((lo.map a.eval).toList ++ (hi.map a.eval).toList ++ (mx.map a.eval).toList)) {l h m : Int} (hb : bounds n lo.isSome hi.isSome mx.isSome vs = some (l, h, m))
    (hn : 0 ≤ l ∧ l ≤ h ∧ h ≤ n) (hk : Cont P X σ {} (.own k (lo0 + l.toNat) (h.toNat - l.toNat)) a o next) : o.wp P a w next Q := by
  simp only [RA, hkk] at hx
  obtain ⟨hle, A, hx, hcap, hA⟩ := hx
  have hob := hR.heap.obj k _ hkk
  simp only [RObj] at hob
  obtain ⟨⟨hpl, hz, _⟩, _⟩ := hob
  have hmn : m = n := bounds_m (by rw [hmx] at hb; exact hb)
  obtain ⟨hbr, hm1, hm2⟩ := bounds_run (P := P) (w := w) (cap := (φ k).cap - lo0) true hb hn.1 hn.2.1 (by omega) (by omega) (by omega) hvs (by cases lo <;> rfl) (by cases hi <;> rfl) (by cases mx <;> rfl)
  rw [hmx] at hbr
  simp only [Bool.false_eq_true, if_false] at hbr
  have hrun := slc_run (P := P) (w := w) ho hu hx (by omega) hbr
  refine wp_value hR hrun ?_ hk
  simp only [RA, hkk]
  refine ⟨by omega, _, by rw [Nat.sub_sub], by omega, ?_⟩
  by_cases h0 : (φ k).cap - lo0 = l.toNat
  · left; omega
  · right
    rw [if_neg h0]
    have hA' := hA.resolve_left (by omega)
    subst hA'
    simp only [Option.map_some, addr_add, hS]
    rw [Nat.add_mul]
    simp only [Nat.add_assoc]

theorem sound_slc_str (hR : Rel P X σ a w φ G M) {t : TypeId} {x : Operand} {lo hi mx : Option Operand} (ho : o.op = .slice t x lo hi mx) (hu : P.underlying t = some .string) {s : ByteArray}
    (hmx : mx.isSome = false) (hx : RA P φ G M w σ.heap (.str s) (a.eval x)) {vs : List AV} (hvs : RAL P φ G M w σ.heap vs ((lo.map a.eval).toList ++ (hi.map a.eval).toList ++ (mx.map a.eval).toList)) {l h m : Int} (hb : bounds s.size lo.isSome hi.isSome mx.isSome vs = some (l, h, m))
    (hn : 0 ≤ l ∧ l ≤ h ∧ h ≤ s.size) (hk : Cont P X σ {} (.str (s.extract l.toNat h.toNat)) a o next) : o.wp P a w next Q := by
  simp only [RA] at hx
  have hmn : m = s.size := bounds_m (by rw [hmx] at hb; exact hb)
  have hmx' : mx = none := by cases mx with
    | none => rfl
    | some _ => simp at hmx
  subst hmx'
  obtain ⟨hbr, hm1, hm2⟩ := bounds_run (P := P) (w := w) (cap := s.size) false hb hn.1 hn.2.1 (by omega) (by omega) (Nat.le_refl _) hvs (by cases lo <;> rfl) (by cases hi <;> rfl) rfl
  refine wp_value hR (u := .string (s.extract l.toNat h.toNat)) ?_ (by simp only [RA]) hk
  simp only [Option.map_none] at hbr
  simp only [execOp, ho, Instr.sliceAt, Instr.slice, Sem.run_bind, underlying, run_program, Result.andThen_ok, hu, Sem.run_pure, hx, Option.map_none, Option.isSome_none, Bool.false_eq_true, if_false, hbr]
end
end Go.AM
