import Derived.Test.YtbcbgfkojmligaaAOps
/- Part of an abstract machine for Go code and of its soundness, for any program of the model; no condition. -/
set_option linter.unusedVariables false
set_option linter.unusedSimpArgs false
namespace Go.AM
open Go.RowKit
section
variable {P : Program} {TT : TyTab} {N : Nat} {rowAt : List Nat} {X : Ctx} {σ : St} {a : Act} {w : World} {φ : Nat → Loc} {G M : Nat → Prop} {o : Oper} {next : Act → World → Prop} {Q : Exit → Act → World → Prop}

theorem eff_put1 (σ : St) (k : Nat) (ob : Obj) : σ.eff { put := [(k, ob)] } = ⟨σ.env, hput σ.heap k ob⟩ := rfl

theorem ofCells_ok {agg : Bool} {c : Option (List AV)} {need : Prop} {v : AV} {e : Eff} (h : R.ofCells agg c = .ok need v e) : ∃ cs, c = some cs ∧ asV agg cs = some v ∧ e = {} := by
  unfold R.ofCells at h
  split at h
  · split at h
    · rename_i cs v' hv; cases h; exact ⟨_, rfl, hv, rfl⟩
    · cases h
  · cases h

theorem sound_load (h : Rel P X σ a w φ G M) {t : TypeId} {x : Operand} (ho : o.op = .load t x) {n : Nat} {agg : Bool} {p : AV} {need : Prop} {v : AV} {e : Eff}
    (ha : (isAggB P t = true ∧ agg = true ∧ n = P.cellsOf t) ∨ (isAggB P t = false ∧ agg = false ∧ n = 1 ∧ (P.underlying t).isSome))
    (hp : RA P φ G M w σ.heap p (a.eval x)) (hr : loadR σ.heap n agg p = .ok need v e) (hk : Cont P X σ e v a o next) : o.wp P a w next Q := by
  cases p with
  | ptr k off =>
    simp only [loadR] at hr
    split at hr
    · rename_i cs hkk
      obtain ⟨r, hcut, hv, rfl⟩ := ofCells_ok hr
      simp only [RA] at hp
      obtain ⟨hx, _⟩ := hp
      have hob := h.heap.obj k _ hkk
      simp only [RObj] at hob
      obtain ⟨c, ty, hblk, hm, hcs⟩ := hob
      obtain ⟨h1, h2⟩ := cut_sound hcs hcut
      have hlen : ((c.toList.drop off).take n).length = n := by simp at h2 ⊢; omega
      obtain ⟨u, hrun, hra⟩ := load_sound (P := P) (w := w) ho hx ha h1 hlen (fun j u hu => by
        have hj : j < n := by have := (List.getElem?_eq_some_iff.1 hu).1; omega
        rw [List.getElem?_take_of_lt hj, List.getElem?_drop] at hu
        simp only [World.cell?, hblk, Option.isSome_none, Bool.false_eq_true, if_false]
        rw [← Array.getElem?_toList]; exact hu) hv
      exact wp_value h hrun hra hk
    · cases hr
  | rptr k i off =>
    simp only [loadR] at hr
    split at hr
    · rename_i ty xs f hkk
      obtain ⟨r, hcut, hv, rfl⟩ := ofCells_ok hr
      simp only [RA, hkk] at hp
      obtain ⟨hi, hx⟩ := hp
      have hob := h.heap.obj k _ hkk
      simp only [RObj] at hob
      obtain ⟨⟨hpl, hz, hrow⟩, _⟩ := hob
      rcases hrow with ⟨_, rfl⟩ | ⟨c, e, hc, _, hblk, hfit, hle, hcells⟩
      · simp at hi
      · have hcell := hcells i hi
        have hd : xs.getD i (dflt ty) = xs[i] := by simp [List.getD, List.getElem?_eq_getElem hi]
        rw [hd] at hcut
        obtain ⟨h1, h2⟩ := cut_sound (RT.cells' (φ := φ) (M := M) (H := σ.heap) hpl hcell) hcut
        have hfl := hcell.len
        rw [hfl] at h2
        obtain ⟨u, hrun, hra⟩ := load_sound (P := P) (w := w) (n := n) ho hx ha h1 (by simp at hfl ⊢; omega) (fun j u hu => by
          have hj : j < n := by have := (List.getElem?_eq_some_iff.1 hu).1; simp at this; omega
          rw [List.getElem?_take_of_lt hj, List.getElem?_drop, List.getElem?_take_of_lt (by omega), List.getElem?_drop] at hu
          simp only [World.cell?, hblk, Option.isSome_none, Bool.false_eq_true, if_false]
          rw [← Array.getElem?_toList, ← hu]
          congr 1; omega) hv
        exact wp_value h hrun hra hk
    · cases hr
  | el ty x' off =>
    simp only [loadR] at hr
    obtain ⟨r, hcut, hv, rfl⟩ := ofCells_ok hr
    simp only [RA] at hp
    obtain ⟨hpl, b, ob, hx, hg, cs, hl, hrt, hcell⟩ := hp
    obtain ⟨h1, h2⟩ := cut_sound (RT.cells' (φ := φ) (M := M) (H := σ.heap) hpl hrt) hcut
    obtain ⟨u, hrun, hra⟩ := load_sound (P := P) (w := w) (n := n) ho hx ha h1 (by simp; omega) (fun j u hu => by
      have hj : j < n := by have := (List.getElem?_eq_some_iff.1 hu).1; simp at this; omega
      rw [List.getElem?_take_of_lt hj, List.getElem?_drop] at hu
      have := hcell _ u hu
      rwa [show ob + (off + j) = ob + off + j by omega] at this) hv
    exact wp_value h hrun hra hk
  | _ => simp [loadR] at hr

/-! ### a variable of one's own -/
theorem newB_run {cells : Array Value} {t : TypeId} : ∃ w', ((newRow t cells).run P w = .ok ⟨w.heap.size, 0, none⟩ w') ∧ NewB w w' (.cells cells t) :=
  ⟨w.alloc (.cells cells t), rfl, NewB.alloc _ _⟩

/-- A new box with known cells. -/
theorem box_cont (h : Rel P X σ a w φ G M) {d : Nat} {cs : List AV} {us : Array Value} {t : TypeId} {w' : World} (hd : hget σ.heap d = none) (hn : NewB w w' (.cells us t)) (hl : RAL P φ G M w σ.heap cs us.toList)
    (hk : Cont P X σ { put := [(d, .box cs)] } (.ptr d 0) a o next) : next (a.put o.dst (.pointer (some ⟨w.heap.size, 0, none⟩))) w' := by
  have hR := h.new hn d (.box cs) ⟨w.heap.size, 0, 0⟩ hd rfl (fun φ' G' M' H' E e1 e2 => by
    simp only [RObj, e1]
    exact ⟨us, t, hn.new, e2, RAL.mono E _ _ hl⟩)
  refine hk w' _ _ _ _ hR ?_
  simp only [RA, eff_put1, hget_hput_self, setφ_self]
  exact ⟨trivial, trivial⟩

theorem sound_box (h : Rel P X σ a w φ G M) {t : TypeId} {x : Operand} (ho : o.op = .box t x) {d : Nat} {v : AV} (hd : hget σ.heap d = none) (hone : (cellsOf v).all AV.one = true)
    (hp : RA P φ G M w σ.heap v (a.eval x)) (hk : Cont P X σ { put := [(d, .box (cellsOf v))] } (.ptr d 0) a o next) : o.wp P a w next Q := by
  obtain ⟨h1, _⟩ := one_cells hp hone
  obtain ⟨w', hrun, hn⟩ := newB_run (P := P) (w := w) (cells := (a.eval x).cells) (t := t)
  have : (execOp a.eval o).run P w = .ok (.value (.pointer (some ⟨w.heap.size, 0, none⟩))) w' := by
    simp only [execOp, ho, Instr.box, newVar, Sem.run_bind, hrun, Result.andThen_ok, Sem.run_pure]
  unfold Oper.wp
  rw [this]
  exact box_cont h hd hn h1 hk

theorem zeros_sound {H : Heap} : ∀ {cs : List AV} {us : List Value}, (∀ t xs f, AV.sl t xs f ∈ cs → plain t = true ∧ 0 < size t) → zerosAre cs us = true → RAL P φ G M w H cs us := by
  intro cs
  induction cs with
  | nil => intro us _ h; cases us with
    | nil => simp only [RAL]
    | cons u us => simp [zerosAre] at h
  | cons c cs ih =>
    intro us hp h
    cases us with
    | nil => simp [zerosAre] at h
    | cons u us =>
      simp only [zerosAre, Bool.and_eq_true] at h
      simp only [RAL]
      refine ⟨u, us, rfl, ?_, ih (fun t xs f hm => hp t xs f (List.mem_cons_of_mem _ hm)) h.2⟩
      have h1 := h.1
      unfold zeroIs at h1
      split at h1
      · simp only [beq_iff_eq] at h1; subst h1; simp only [RA]
      · simp only [RA]
      · rename_i s s'
        simp only [Bool.and_eq_true, beq_iff_eq] at h1
        simp only [RA]
        congr 1
        have e1 : s'.data = #[] := Array.eq_empty_of_size_eq_zero h1.2
        have e2 : s.data = #[] := Array.eq_empty_of_size_eq_zero h1.1
        cases s; cases s'; simp_all
      · rename_i t
        obtain ⟨h3, h4⟩ := hp t [] true (by simp)
        simp only [RA]
        exact ⟨h3, h4, by simp only [RT]; exact ⟨none, 0, rfl, Nat.le_refl _, .inl trivial⟩, fun _ => ⟨none, rfl⟩⟩
      · simp only [RA]
      · cases h1

theorem zcells_plain : ∀ {t : Ty}, plain t = true → ∀ s xs f, AV.sl s xs f ∈ zcells t → plain s = true ∧ 0 < size s := by
  intro t
  induction t with
  | list t _ => intro hp s xs f hm; simp [zcells] at hm; obtain ⟨rfl, _⟩ := hm; simpa [plain] using hp
  | olist t _ => intro hp s xs f hm; simp [zcells] at hm; obtain ⟨rfl, _⟩ := hm; simpa [plain] using hp
  | pair a b iha ihb =>
    intro hp s xs f hm
    simp only [plain, Bool.and_eq_true] at hp
    simp only [zcells, List.mem_append] at hm
    exact hm.elim (iha hp.1 s xs f) (ihb hp.2 s xs f)
  | _ => intro hp s xs f hm; simp [zcells] at hm

theorem zero_run {t : TypeId} (h : hasZero P t = true) : ∃ z, (zeroValue t).run P w = .ok z w ∧ z.cells.toList = zeroOf P t := by
  unfold hasZero at h
  unfold zeroOf
  cases hi : P.info? t with
  | none => simp [hi] at h
  | some i =>
    simp only [hi] at h
    cases hz : i.zero with
    | none => simp [hz] at h
    | some z => exact ⟨z, by simp [zeroValue, typeInfo, hi, hz], by simp [hz]⟩

theorem compZero_sound {t : TypeId} {cs : List AV} {H : Heap} (h : compZero P TT t = some cs) : hasZero P t = true ∧ RAL P φ G M w H cs (zeroOf P t) := by
  unfold compZero at h
  split at h
  · split at h
    · rename_i hz
      cases h
      simp only [Bool.and_eq_true] at hz
      exact ⟨hz.1.2, zeros_sound (zcells_plain hz.1.1) hz.2⟩
    · cases h
  · split at h
    · rename_i hz
      cases h
      refine ⟨hz, ?_⟩
      generalize zeroOf P t = zs
      induction zs with
      | nil => simp only [List.map_nil, RAL]
      | cons z zs ih =>
        simp only [List.map_cons, RAL]
        refine ⟨z, zs, rfl, ?_, ih⟩
        split <;> simp only [RA]
    · cases h

theorem sound_alloc (h : Rel P X σ a w φ G M) {t : TypeId} (ho : o.op = .alloc t) {d : Nat} {cs : List AV} (hz : compZero P TT t = some cs) (hd : hget σ.heap d = none)
    (hk : Cont P X σ { put := [(d, .box cs)] } (.ptr d 0) a o next) : o.wp P a w next Q := by
  obtain ⟨hz1, hz2⟩ := compZero_sound (φ := φ) (G := G) (M := M) (w := w) (H := σ.heap) hz
  obtain ⟨z, hzr, hzc⟩ := zero_run (w := w) hz1
  obtain ⟨w', hrun, hn⟩ := newB_run (P := P) (w := w) (cells := z.cells) (t := t)
  have : (execOp a.eval o).run P w = .ok (.value (.pointer (some ⟨w.heap.size, 0, none⟩))) w' := by
    simp only [execOp, ho, Instr.alloc, newVar, Sem.run_bind, hzr, hrun, Result.andThen_ok, Sem.run_pure]
  unfold Oper.wp
  rw [this]
  exact box_cont h hd hn (by rw [hzc]; exact hz2) hk

/-! ### writing -/
theorem lay_sound {H : Heap} : ∀ {cs vs r : List AV} {c us : List Value} {off : Nat}, RAL P φ G M w H cs c → RAL P φ G M w H vs us → lay cs off vs = some r →
    RAL P φ G M w H r (c.take off ++ us ++ c.drop (off + us.length)) ∧ off + us.length ≤ c.length ∧ r.length = cs.length := by
  intro cs
  induction cs with
  | nil =>
    intro vs r c us off h1 h2 h
    simp only [RAL] at h1
    subst h1
    cases off with
    | zero => cases vs with
      | nil => simp only [RAL] at h2; subst h2; simp only [lay] at h; cases h; exact ⟨by simp [RAL], by simp, rfl⟩
      | cons v vs => simp [lay] at h
    | succ off => simp [lay] at h
  | cons x cs ih =>
    intro vs r c us off h1 h2 h
    simp only [RAL] at h1
    obtain ⟨u, c, rfl, hu, h1⟩ := h1
    cases off with
    | zero => cases vs with
      | nil =>
        simp only [RAL] at h2; subst h2; simp only [lay] at h; cases h
        exact ⟨by simp only [List.take_zero, List.nil_append, List.length_nil, Nat.add_zero, List.drop_zero, RAL]; exact ⟨u, c, rfl, hu, h1⟩, by simp, rfl⟩
      | cons v vs =>
        simp only [RAL] at h2
        obtain ⟨u2, us, rfl, hu2, h2⟩ := h2
        simp only [lay] at h
        split at h
        · rename_i r' hr
          cases h
          obtain ⟨h3, h4, h5⟩ := ih h1 h2 hr
          refine ⟨?_, by simp at h4 ⊢; omega, by simp [h5]⟩
          simp only [List.take_zero, List.nil_append, Nat.zero_add, List.cons_append, List.length_cons, RAL] at h3 ⊢
          exact ⟨u2, _, rfl, hu2, by rw [show List.drop (us.length + 1) (u :: c) = List.drop us.length c from rfl]; exact h3⟩
        · cases h
    | succ off =>
      simp only [lay] at h
      split at h
      · rename_i r' hr
        cases h
        obtain ⟨h3, h4, h5⟩ := ih h1 h2 hr
        refine ⟨?_, by simp; omega, by simp [h5]⟩
        rw [show off + 1 + us.length = off + us.length + 1 by omega]
        simp only [List.take_succ_cons, List.cons_append, List.drop_succ_cons, RAL]
        exact ⟨u, _, rfl, hu, h3⟩
      · cases h

theorem store_run {t : TypeId} {x y : Operand} (ho : o.op = .store t x y) {b off : Nat} {c : Array Value} {e : TypeId} {us : List Value} (hx : a.eval x = .pointer (some ⟨b, off, none⟩))
    (hu : (a.eval y).cells.toList = us) (hn : us.length = P.cellsOf t) (h0 : 0 < P.cellsOf t) (hblk : w.heap[b]? = some (.cells c e (0, 0))) (hfit : off + us.length ≤ c.size) (hone : ∀ x ∈ us, x.oneCell' = true) :
    (execOp a.eval o).run P w = .ok .skip (w.setRow b (c.toList.take off ++ us ++ c.toList.drop (off + us.length)).toArray) := by
  obtain ⟨i, hi, hs⟩ := info_of_cells h0
  have hst := run_storeCells_at P b off e us 0 c w hblk (by simpa using hfit) hone
  simp only [Nat.add_zero] at hst
  have hsz : (a.eval y).cells.size = i.size := by rw [hs, ← hn, ← hu]; simp
  simp only [execOp, ho, Instr.storeAt, Instr.sureAddr, storeVar, hx, Sem.run_bind, Sem.run_pure, Result.andThen_ok, Go.sizeOf, typeInfo, run_program, hi, hsz, ne_eq, not_true_eq_false, if_false, hu, hst]

theorem setRow_new {g : Nat} {c cs : Array Value} {e : TypeId} (h : w.heap[g]? = some (.cells c e (0, 0))) : (w.setRow g cs).heap[g]? = some (.cells cs e (0, 0)) := setRow_heap w g c cs e (0, 0) h

theorem sound_store_box (h : Rel P X σ a w φ G M) {t : TypeId} {x y : Operand} (ho : o.op = .store t x y) (h0 : 0 < P.cellsOf t) {k off : Nat} {v : AV} {cs cs' : List AV}
    (hx : RA P φ G M w σ.heap (.ptr k off) (a.eval x)) (hy : RA P φ G M w σ.heap v (a.eval y)) (hn : (cellsOf v).length = P.cellsOf t) (hone : (cellsOf v).all AV.one = true)
    (hkk : hget σ.heap k = some (.box cs)) (hl : lay cs off (cellsOf v) = some cs') (hk : Cont P X σ { put := [(k, .box cs')] } .undef a o next) : o.wp P a w next Q := by
  simp only [RA] at hx
  obtain ⟨hx, _⟩ := hx
  have hob := h.heap.obj k _ hkk
  simp only [RObj] at hob
  obtain ⟨c, ty, hblk, hm, hcs⟩ := hob
  obtain ⟨h1, h2⟩ := one_cells hy hone
  obtain ⟨h3, h4, h5⟩ := lay_sound hcs h1 hl
  have hrun := store_run (P := P) (w := w) ho hx rfl (by rw [h1.len, hn]) h0 hblk (by simpa using h4) h2
  unfold Oper.wp
  rw [hrun]
  refine hk _ undef _ _ _ (h.wr hkk trivial hm (OneB.setRow _ _ _) (.box cs') trivial (fun E => ?_)) (by simp only [RA])
  simp only [RObj]
  exact ⟨_, ty, setRow_new hblk, hm, RAL.mono E _ _ (by simpa using h3)⟩
end
end Go.AM
