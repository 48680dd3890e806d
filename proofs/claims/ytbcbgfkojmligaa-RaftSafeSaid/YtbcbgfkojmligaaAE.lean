import Derived.Test.YtbcbgfkojmligaaAD
import Derived.Test.YtbcbgfkojmligaaAA
import Derived.WalkKit
/- Part of an abstract machine for Go code and of its soundness, for any program of the model; no condition. -/
set_option maxHeartbeats 4000000
set_option linter.unusedVariables false
set_option linter.unusedSimpArgs false
namespace Go.AM
open Go.RowKit
section
variable {P : Program} {TT : TyTab} {N : Nat} {rowAt : List Nat} {X : Ctx} {σ : St} {a : Act} {w : World} {φ : Nat → Loc} {G M : Nat → Prop}

/-- What is to be shown of an operation's end. -/
def Cont (P : Program) (X : Ctx) (σ : St) (e : Eff) (v : AV) (a : Act) (o : Oper) (next : Act → World → Prop) : Prop :=
  ∀ w' u φ' G' M', Rel P X (σ.eff e) a w' φ' G' M' → RA P φ' G' M' w' (σ.eff e).heap v u → next (a.put o.dst u) w'

theorem info_of_underlying {t : TypeId} {d : TypeDesc} (h : P.underlying t = some d) : ∃ i, P.info? t = some i := by
  unfold Program.underlying at h
  cases hi : P.info? t with
  | none => simp [hi] at h
  | some i => exact ⟨i, rfl⟩
theorem info_of_cells {t : TypeId} (h : 0 < P.cellsOf t) : ∃ i, P.info? t = some i ∧ i.size = P.cellsOf t := by
  unfold Program.cellsOf at *
  cases hi : P.info? t with
  | none => simp [hi] at h
  | some i => exact ⟨i, rfl, by simp⟩

theorem opd_sound (h : Rel P X σ a w φ G M) {t : TypeId} {x : Operand} {y : Opd} (hc : compOpd P TT N t x = some y) : RA P φ G M w σ.heap (y.val σ.env) (a.eval x) := by
  unfold compOpd at hc
  split at hc
  · split at hc
    · cases hc; exact h.env _
    · cases hc
  · cases hc; simp only [Opd.val, RA, Act.eval]
  · cases hc; simp only [Opd.val, RA, Act.eval]
  · cases hc; simp only [Opd.val, RA, Act.eval]
  · split at hc
    · split at hc
      · split at hc
        · rename_i hp
          cases hc
          simp only [Bool.and_eq_true, decide_eq_true_eq] at hp
          simp only [Opd.val, RA, Act.eval]
          exact ⟨hp.1, hp.2, by simp only [RT]; exact ⟨none, 0, rfl, Nat.le_refl _, .inl trivial⟩, fun _ => ⟨none, rfl⟩⟩
        · cases hc
      · cases hc
    · cases hc
  · cases hc; simp only [Opd.val, RA, Act.eval]
  · cases hc; simp only [Opd.val, RA, Act.eval]; exact ⟨#[], rfl, by simp only [RAL]⟩
  · cases hc

theorem args_sound (h : Rel P X σ a w φ G M) : ∀ {ts : List TypeId} {xs : List Operand} {ys : List Opd}, compArgs P TT N ts xs = some ys → RAL P φ G M w σ.heap (vals σ.env ys) (xs.map a.eval) := by
  intro ts xs
  induction xs generalizing ts with
  | nil =>
    intro ys hc
    have e : compArgs P TT N ts [] = some [] := by cases ts <;> rfl
    rw [e] at hc
    cases hc
    simp only [vals, RAL, List.map_nil]
  | cons x xs ih =>
    intro ys hc
    have : ∃ t ts' y ys', compOpd P TT N t x = some y ∧ compArgs P TT N ts' xs = some ys' ∧ ys = y :: ys' := by
      cases ts with
      | nil =>
        simp only [compArgs] at hc
        split at hc
        · rename_i y hy
          split at hc
          · rename_i ys' hys; cases hc; exact ⟨_, _, _, _, hy, hys, rfl⟩
          · cases hc
        · cases hc
      | cons t ts =>
        simp only [compArgs] at hc
        split at hc
        · rename_i y hy
          split at hc
          · rename_i ys' hys; cases hc; exact ⟨_, _, _, _, hy, hys, rfl⟩
          · cases hc
        · cases hc
    obtain ⟨t, ts', y, ys', h1, h2, rfl⟩ := this
    simp only [vals, List.map_cons, RAL]
    exact ⟨_, _, rfl, opd_sound h h1, ih h2⟩

theorem bare_sound {H : Heap} {v : AV} {u : Value} (hs : sure v) (h : RA P φ G M w H v u) : RA P φ G M w H (bare v) u := by
  cases v <;> first | exact h | (simp only [sure] at hs; simp only [RA] at h; exact h.1 hs)
theorem bareL_sound {H : Heap} : ∀ {vs : List AV} {us : List Value}, sureL vs → RAL P φ G M w H vs us → RAL P φ G M w H (bareL vs) us := by
  intro vs
  induction vs with
  | nil => intro us _ h; exact h
  | cons v vs ih =>
    intro us hs h
    simp only [RAL] at h
    obtain ⟨u, us', rfl, h1, h2⟩ := h
    simp only [bareL, RAL]
    exact ⟨u, us', rfl, bare_sound hs.1 h1, ih hs.2 h2⟩

theorem eff_nil (σ : St) : σ.eff {} = σ := rfl

/-- An operation that only computes. -/
theorem wp_value {o : Oper} {v : AV} {u : Value} {next : Act → World → Prop} {Q : Exit → Act → World → Prop} (h : Rel P X σ a w φ G M)
    (hr : (execOp a.eval o).run P w = .ok (.value u) w) (hv : RA P φ G M w σ.heap v u) (hk : Cont P X σ {} v a o next) : o.wp P a w next Q := by
  unfold Oper.wp
  rw [hr]
  exact hk w u φ G M h hv

theorem one_cells {H : Heap} {v : AV} {u : Value} (h : RA P φ G M w H v u) (ho : (cellsOf v).all AV.one = true) : RAL P φ G M w H (cellsOf v) u.cells.toList ∧ ∀ x ∈ u.cells.toList, x.oneCell' = true := by
  have one : ∀ (v : AV) (u : Value), AV.one v = true → RA P φ G M w H v u → u.oneCell' = true ∧ u.cells = #[u] := by
    intro v u hv h
    cases v with
    | int k n => simp only [RA] at h; subst h; exact ⟨rfl, rfl⟩
    | bool n => simp only [RA] at h; subst h; exact ⟨rfl, rfl⟩
    | str n => simp only [RA] at h; subst h; exact ⟨rfl, rfl⟩
    | sl t xs f =>
      simp only [RA, RT] at h
      obtain ⟨_, _, ⟨A, c, he, _⟩, _⟩ := h
      cases he
      exact ⟨rfl, rfl⟩
    | own k lo len =>
      simp only [RA] at h
      split at h
      · obtain ⟨_, A, rfl, _⟩ := h; exact ⟨rfl, rfl⟩
      · exact h.elim
    | ptr k off => simp only [RA] at h; obtain ⟨rfl, _⟩ := h; exact ⟨rfl, rfl⟩
    | pn k b => simp [AV.one] at hv
    | mp k => simp [AV.one] at hv
    | rptr k i off =>
      simp only [RA] at h
      split at h
      · obtain ⟨_, rfl⟩ := h; exact ⟨rfl, rfl⟩
      · exact h.elim
    | el t x off => simp only [RA] at h; obtain ⟨_, b, o, rfl, _⟩ := h; exact ⟨rfl, rfl⟩
    | clo f caps => simp only [RA] at h; obtain ⟨us, rfl, _⟩ := h; exact ⟨rfl, rfl⟩
    | fv x r p => simp only [RA] at h; obtain ⟨f, caps, wd, rfl, _⟩ := h; exact ⟨rfl, rfl⟩
    | undef => simp [AV.one] at hv
    | nilf => simp only [RA] at h; subst h; exact ⟨rfl, rfl⟩
    | agg cs => simp [AV.one] at hv
    | tup cs => simp [AV.one] at hv
    | g b v => simp [AV.one] at hv
  have list : ∀ (cs : List AV) (us : List Value), cs.all AV.one = true → RAL P φ G M w H cs us → ∀ x ∈ us, x.oneCell' = true := by
    intro cs
    induction cs with
    | nil => intro us _ h; simp only [RAL] at h; subst h; simp
    | cons c cs ih =>
      intro us ha h
      simp only [List.all_cons, Bool.and_eq_true] at ha
      simp only [RAL] at h
      obtain ⟨u, us', rfl, h1, h2⟩ := h
      intro x hx
      rcases List.mem_cons.1 hx with rfl | hx
      · exact (one c x ha.1 h1).1
      · exact ih us' ha.2 h2 x hx
  cases v with
  | agg cs =>
    simp only [RA] at h
    obtain ⟨us, rfl, h⟩ := h
    exact ⟨h, list cs _ ho h⟩
  | _ =>
    simp only [cellsOf, List.all_cons, List.all_nil, Bool.and_true] at ho
    obtain ⟨h1, h2⟩ := one _ _ ho h
    rw [h2]
    refine ⟨?_, by simpa using h1⟩
    simp only [cellsOf, RAL]
    exact ⟨_, _, rfl, h, rfl⟩

/-! ### reading -/
theorem cut_sound {H : Heap} : ∀ {cs : List AV} {us : List Value} {off n : Nat} {r : List AV}, RAL P φ G M w H cs us → cut cs off n = some r → RAL P φ G M w H r ((us.drop off).take n) ∧ off + n ≤ us.length := by
  intro cs
  induction cs with
  | nil =>
    intro us off n r h hc
    simp only [RAL] at h
    subst h
    cases off with
    | zero => cases n with
      | zero => simp only [cut] at hc; cases hc; exact ⟨by simp [RAL], by simp⟩
      | succ n => simp [cut] at hc
    | succ off => cases n <;> simp [cut] at hc
  | cons c cs ih =>
    intro us off n r h hc
    simp only [RAL] at h
    obtain ⟨u, us', rfl, h1, h2⟩ := h
    cases off with
    | zero => cases n with
      | zero => simp only [cut] at hc; cases hc; exact ⟨by simp [RAL], by simp⟩
      | succ n =>
        simp only [cut] at hc
        split at hc
        · rename_i r' hr
          cases hc
          obtain ⟨h3, h4⟩ := ih h2 hr
          refine ⟨?_, by simp at h4 ⊢; omega⟩
          simp only [List.drop_zero, List.take_succ_cons, RAL] at h3 ⊢
          exact ⟨_, _, rfl, h1, h3⟩
        · cases hc
    | succ off =>
      have hc' : cut cs off n = some r := by cases n <;> simpa [cut] using hc
      obtain ⟨h3, h4⟩ := ih h2 hc'
      exact ⟨by simpa using h3, by simp; omega⟩

theorem loadCells_at {b o : Nat} {us : List Value} (h : ∀ j u, us[j]? = some u → w.cell? ⟨b, o + j, none⟩ = some u) : (loadCells ⟨b, o, none⟩ us.length).run P w = .ok us.toArray w := by
  refine run_loadCells_list w _ us fun j v hv => ?_
  have : (⟨b, o, none⟩ : Addr).add j = ⟨b, o + j, none⟩ := by unfold Addr.add; split <;> simp_all
  rw [this]
  exact h j v hv

/-- A variable is read: its cells are known. -/
theorem load_sound {o : Oper} {t : TypeId} {x : Operand} {H : Heap} (ho : o.op = .load t x) {b off n : Nat} {us : List Value} {r : List AV} {v : AV} {agg : Bool}
    (hx : a.eval x = .pointer (some ⟨b, off, none⟩)) (ha : (isAggB P t = true ∧ agg = true ∧ n = P.cellsOf t) ∨ (isAggB P t = false ∧ agg = false ∧ n = 1 ∧ (P.underlying t).isSome))
    (hl : RAL P φ G M w H r us) (hn : us.length = n) (hc : ∀ j u, us[j]? = some u → w.cell? ⟨b, off + j, none⟩ = some u) (hv : asV agg r = some v) :
    ∃ u, (execOp a.eval o).run P w = .ok (.value u) w ∧ RA P φ G M w H v u := by
  rcases ha with ⟨h1, rfl, rfl⟩ | ⟨h1, rfl, rfl, h2⟩
  · simp only [asV] at hv
    cases hv
    refine ⟨.agg us.toArray, ?_, by simp only [RA]; exact ⟨us.toArray, rfl, by simpa using hl⟩⟩
    have hL := loadCells_at (P := P) hc
    rw [hn] at hL
    unfold isAggB at h1
    have : ∃ i, P.info? t = some i := by
      split at h1
      · rename_i hu; exact info_of_underlying hu
      · rename_i hu; exact info_of_underlying hu
      · cases h1
    obtain ⟨i, hi⟩ := this
    have hs : i.size = P.cellsOf t := by simp [Program.cellsOf, hi]
    have hag : (isAgg t).run P w = .ok true w := by
      unfold isAgg
      split at h1
      · rename_i hu; simp [underlying, hu]
      · rename_i hu; simp [underlying, hu]
      · cases h1
    simp only [execOp, ho, Instr.loadAt, Instr.sureAddr, loadVar, hx, Sem.run_bind, Sem.run_pure, Result.andThen_ok, hag, if_true, Go.sizeOf, typeInfo, run_program, hi, hs, hL]
  · cases r with
    | nil => simp [asV] at hv
    | cons c r => cases r with
      | cons c' r => simp [asV] at hv
      | nil =>
        simp only [asV] at hv
        cases hv
        simp only [RAL] at hl
        obtain ⟨u, us', rfl, hu, rfl⟩ := hl
        refine ⟨u, ?_, hu⟩
        have hcell := hc 0 u rfl
        simp only [Nat.add_zero] at hcell
        have hag : (isAgg t).run P w = .ok false w := by
          unfold isAgg
          unfold isAggB at h1
          cases hu : P.underlying t with
          | none => simp [hu] at h2
          | some d => simp only [hu] at h1; cases d <;> simp_all [underlying]
        simp only [execOp, ho, Instr.loadAt, Instr.sureAddr, loadVar, hx, Sem.run_bind, Sem.run_pure, Result.andThen_ok, hag, Bool.false_eq_true, if_false, run_load, hcell]
end
end Go.AM

namespace Go.AM
open Go.RowKit
section
variable {P : Program} {TT : TyTab} {N : Nat} {rowAt : List Nat} {X : Ctx} {σ : St} {a : Act} {w : World} {φ : Nat → Loc} {G M : Nat → Prop} {o : Oper} {next : Act → World → Prop} {Q : Exit → Act → World → Prop}

theorem eff_put1 (σ : St) (k : Nat) (ob : Obj) : σ.eff { put := [(k, ob)] } = ⟨σ.env, hput σ.heap k ob⟩ := rfl

theorem ofCells_ok {agg : Bool} {c : Option (List AV)} {need : Prop} {v : AV} {e : Eff} (h : R.ofCells agg c = .ok need v e) : ∃ cs, c = some cs ∧ asV agg cs = some v ∧ e = {} := by
  unfold R.ofCells at h
  split at h
  · split at h
    · rename_i cs v' hv; cases h; exact ⟨_, rfl, hv, rfl⟩
    · cases h
  · cases h

theorem sound_load (h : Rel P X σ a w φ G M) {t : TypeId} {x : Operand} (ho : o.op = .load t x) {n : Nat} {agg : Bool} {p : AV} {need : Prop} {v : AV} {e : Eff}
    (ha : (isAggB P t = true ∧ agg = true ∧ n = P.cellsOf t) ∨ (isAggB P t = false ∧ agg = false ∧ n = 1 ∧ (P.underlying t).isSome))
    (hp : RA P φ G M w σ.heap p (a.eval x)) (hr : loadR σ.heap n agg p = .ok need v e) (hk : Cont P X σ e v a o next) : o.wp P a w next Q := by
  cases p with
  | ptr k off =>
    simp only [loadR] at hr
    split at hr
    · rename_i cs hkk
      obtain ⟨r, hcut, hv, rfl⟩ := ofCells_ok hr
      simp only [RA] at hp
      obtain ⟨hx, _⟩ := hp
      have hob := h.heap.obj k _ hkk
      simp only [RObj] at hob
      obtain ⟨c, ty, hblk, hm, hcs⟩ := hob
      obtain ⟨h1, h2⟩ := cut_sound hcs hcut
      have hlen : ((c.toList.drop off).take n).length = n := by simp at h2 ⊢; omega
      obtain ⟨u, hrun, hra⟩ := load_sound (P := P) (w := w) ho hx ha h1 hlen (fun j u hu => by
        have hj : j < n := by have := (List.getElem?_eq_some_iff.1 hu).1; omega
        rw [List.getElem?_take_of_lt hj, List.getElem?_drop] at hu
        simp only [World.cell?, hblk, Option.isSome_none, Bool.false_eq_true, if_false]
        rw [← Array.getElem?_toList]; exact hu) hv
      exact wp_value h hrun hra hk
    · cases hr
  | rptr k i off =>
    simp only [loadR] at hr
    split at hr
    · rename_i ty xs f hkk
      obtain ⟨r, hcut, hv, rfl⟩ := ofCells_ok hr
      simp only [RA, hkk] at hp
      obtain ⟨hi, hx⟩ := hp
      have hob := h.heap.obj k _ hkk
      simp only [RObj] at hob
      obtain ⟨⟨hpl, hz, hrow⟩, _⟩ := hob
      rcases hrow with ⟨_, rfl⟩ | ⟨c, e, hc, _, hblk, hfit, hle, hcells⟩
      · simp at hi
      · have hcell := hcells i hi
        have hd : xs.getD i (dflt ty) = xs[i] := by simp [List.getD, List.getElem?_eq_getElem hi]
        rw [hd] at hcut
        obtain ⟨h1, h2⟩ := cut_sound (RT.cells' (φ := φ) (M := M) (H := σ.heap) hpl hcell) hcut
        have hfl := hcell.len
        rw [hfl] at h2
        obtain ⟨u, hrun, hra⟩ := load_sound (P := P) (w := w) (n := n) ho hx ha h1 (by simp at hfl ⊢; omega) (fun j u hu => by
          have hj : j < n := by have := (List.getElem?_eq_some_iff.1 hu).1; simp at this; omega
          rw [List.getElem?_take_of_lt hj, List.getElem?_drop, List.getElem?_take_of_lt (by omega), List.getElem?_drop] at hu
          simp only [World.cell?, hblk, Option.isSome_none, Bool.false_eq_true, if_false]
          rw [← Array.getElem?_toList, ← hu]
          congr 1; omega) hv
        exact wp_value h hrun hra hk
    · cases hr
  | el ty x' off =>
    simp only [loadR] at hr
    obtain ⟨r, hcut, hv, rfl⟩ := ofCells_ok hr
    simp only [RA] at hp
    obtain ⟨hpl, b, ob, hx, hg, cs, hl, hrt, hcell⟩ := hp
    obtain ⟨h1, h2⟩ := cut_sound (RT.cells' (φ := φ) (M := M) (H := σ.heap) hpl hrt) hcut
    obtain ⟨u, hrun, hra⟩ := load_sound (P := P) (w := w) (n := n) ho hx ha h1 (by simp; omega) (fun j u hu => by
      have hj : j < n := by have := (List.getElem?_eq_some_iff.1 hu).1; simp at this; omega
      rw [List.getElem?_take_of_lt hj, List.getElem?_drop] at hu
      have := hcell _ u hu
      rwa [show ob + (off + j) = ob + off + j by omega] at this) hv
    exact wp_value h hrun hra hk
  | _ => simp [loadR] at hr

/-! ### a variable of one's own -/
theorem newB_run {cells : Array Value} {t : TypeId} : ∃ w', ((newRow t cells).run P w = .ok ⟨w.heap.size, 0, none⟩ w') ∧ NewB w w' (.cells cells t) :=
  ⟨w.alloc (.cells cells t), rfl, NewB.alloc _ _⟩

/-- A new box with known cells. -/
theorem box_cont (h : Rel P X σ a w φ G M) {d : Nat} {cs : List AV} {us : Array Value} {t : TypeId} {w' : World} (hd : hget σ.heap d = none) (hn : NewB w w' (.cells us t)) (hl : RAL P φ G M w σ.heap cs us.toList)
    (hk : Cont P X σ { put := [(d, .box cs)] } (.ptr d 0) a o next) : next (a.put o.dst (.pointer (some ⟨w.heap.size, 0, none⟩))) w' := by
  have hR := h.new hn d (.box cs) ⟨w.heap.size, 0, 0⟩ hd rfl (fun φ' G' M' H' E e1 e2 => by
    simp only [RObj, e1]
    exact ⟨us, t, hn.new, e2, RAL.mono E _ _ hl⟩)
  refine hk w' _ _ _ _ hR ?_
  simp only [RA, eff_put1, hget_hput_self, setφ_self]
  exact ⟨trivial, trivial⟩

theorem sound_box (h : Rel P X σ a w φ G M) {t : TypeId} {x : Operand} (ho : o.op = .box t x) {d : Nat} {v : AV} (hd : hget σ.heap d = none) (hone : (cellsOf v).all AV.one = true)
    (hp : RA P φ G M w σ.heap v (a.eval x)) (hk : Cont P X σ { put := [(d, .box (cellsOf v))] } (.ptr d 0) a o next) : o.wp P a w next Q := by
  obtain ⟨h1, _⟩ := one_cells hp hone
  obtain ⟨w', hrun, hn⟩ := newB_run (P := P) (w := w) (cells := (a.eval x).cells) (t := t)
  have : (execOp a.eval o).run P w = .ok (.value (.pointer (some ⟨w.heap.size, 0, none⟩))) w' := by
    simp only [execOp, ho, Instr.box, newVar, Sem.run_bind, hrun, Result.andThen_ok, Sem.run_pure]
  unfold Oper.wp
  rw [this]
  exact box_cont h hd hn h1 hk

theorem zeros_sound {H : Heap} : ∀ {cs : List AV} {us : List Value}, (∀ t xs f, AV.sl t xs f ∈ cs → plain t = true ∧ 0 < size t) → zerosAre cs us = true → RAL P φ G M w H cs us := by
  intro cs
  induction cs with
  | nil => intro us _ h; cases us with
    | nil => simp only [RAL]
    | cons u us => simp [zerosAre] at h
  | cons c cs ih =>
    intro us hp h
    cases us with
    | nil => simp [zerosAre] at h
    | cons u us =>
      simp only [zerosAre, Bool.and_eq_true] at h
      simp only [RAL]
      refine ⟨u, us, rfl, ?_, ih (fun t xs f hm => hp t xs f (List.mem_cons_of_mem _ hm)) h.2⟩
      have h1 := h.1
      unfold zeroIs at h1
      split at h1
      · simp only [beq_iff_eq] at h1; subst h1; simp only [RA]
      · simp only [RA]
      · rename_i s s'
        simp only [Bool.and_eq_true, beq_iff_eq] at h1
        simp only [RA]
        congr 1
        have e1 : s'.data = #[] := Array.eq_empty_of_size_eq_zero h1.2
        have e2 : s.data = #[] := Array.eq_empty_of_size_eq_zero h1.1
        cases s; cases s'; simp_all
      · rename_i t
        obtain ⟨h3, h4⟩ := hp t [] true (by simp)
        simp only [RA]
        exact ⟨h3, h4, by simp only [RT]; exact ⟨none, 0, rfl, Nat.le_refl _, .inl trivial⟩, fun _ => ⟨none, rfl⟩⟩
      · simp only [RA]
      · simp only [RA]
      · cases h1

theorem zcells_plain : ∀ {t : Ty}, plain t = true → ∀ s xs f, AV.sl s xs f ∈ zcells t → plain s = true ∧ 0 < size s := by
  intro t
  induction t with
  | list t _ => intro hp s xs f hm; simp [zcells] at hm; obtain ⟨rfl, _⟩ := hm; simpa [plain] using hp
  | olist t _ => intro hp s xs f hm; simp [zcells] at hm; obtain ⟨rfl, _⟩ := hm; simpa [plain] using hp
  | flist t _ => intro hp s xs f hm; simp [zcells] at hm; obtain ⟨rfl, _⟩ := hm; simpa [plain] using hp
  | pair a b iha ihb =>
    intro hp s xs f hm
    simp only [plain, Bool.and_eq_true] at hp
    simp only [zcells, List.mem_append] at hm
    exact hm.elim (iha hp.1 s xs f) (ihb hp.2 s xs f)
  | _ => intro hp s xs f hm; simp [zcells] at hm

theorem zero_run {t : TypeId} (h : hasZero P t = true) : ∃ z, (zeroValue t).run P w = .ok z w ∧ z.cells.toList = zeroOf P t := by
  unfold hasZero at h
  unfold zeroOf
  cases hi : P.info? t with
  | none => simp [hi] at h
  | some i =>
    simp only [hi] at h
    cases hz : i.zero with
    | none => simp [hz] at h
    | some z => exact ⟨z, by simp [zeroValue, typeInfo, hi, hz], by simp [hz]⟩

theorem compZero_sound {t : TypeId} {cs : List AV} {H : Heap} (h : compZero P TT t = some cs) : hasZero P t = true ∧ RAL P φ G M w H cs (zeroOf P t) := by
  unfold compZero at h
  split at h
  · split at h
    · rename_i hz
      cases h
      simp only [Bool.and_eq_true] at hz
      exact ⟨hz.1.2, zeros_sound (zcells_plain hz.1.1) hz.2⟩
    · cases h
  · split at h
    · rename_i hz
      cases h
      refine ⟨hz, ?_⟩
      generalize zeroOf P t = zs
      induction zs with
      | nil => simp only [List.map_nil, RAL]
      | cons z zs ih =>
        simp only [List.map_cons, RAL]
        refine ⟨z, zs, rfl, ?_, ih⟩
        split <;> simp only [RA]
    · cases h

theorem sound_alloc (h : Rel P X σ a w φ G M) {t : TypeId} (ho : o.op = .alloc t) {d : Nat} {cs : List AV} (hz : compZero P TT t = some cs) (hd : hget σ.heap d = none)
    (hk : Cont P X σ { put := [(d, .box cs)] } (.ptr d 0) a o next) : o.wp P a w next Q := by
  obtain ⟨hz1, hz2⟩ := compZero_sound (φ := φ) (G := G) (M := M) (w := w) (H := σ.heap) hz
  obtain ⟨z, hzr, hzc⟩ := zero_run (w := w) hz1
  obtain ⟨w', hrun, hn⟩ := newB_run (P := P) (w := w) (cells := z.cells) (t := t)
  have : (execOp a.eval o).run P w = .ok (.value (.pointer (some ⟨w.heap.size, 0, none⟩))) w' := by
    simp only [execOp, ho, Instr.alloc, newVar, Sem.run_bind, hzr, hrun, Result.andThen_ok, Sem.run_pure]
  unfold Oper.wp
  rw [this]
  exact box_cont h hd hn (by rw [hzc]; exact hz2) hk

/-! ### writing -/
theorem lay_sound {H : Heap} : ∀ {cs vs r : List AV} {c us : List Value} {off : Nat}, RAL P φ G M w H cs c → RAL P φ G M w H vs us → lay cs off vs = some r →
    RAL P φ G M w H r (c.take off ++ us ++ c.drop (off + us.length)) ∧ off + us.length ≤ c.length ∧ r.length = cs.length := by
  intro cs
  induction cs with
  | nil =>
    intro vs r c us off h1 h2 h
    simp only [RAL] at h1
    subst h1
    cases off with
    | zero => cases vs with
      | nil => simp only [RAL] at h2; subst h2; simp only [lay] at h; cases h; exact ⟨by simp [RAL], by simp, rfl⟩
      | cons v vs => simp [lay] at h
    | succ off => simp [lay] at h
  | cons x cs ih =>
    intro vs r c us off h1 h2 h
    simp only [RAL] at h1
    obtain ⟨u, c, rfl, hu, h1⟩ := h1
    cases off with
    | zero => cases vs with
      | nil =>
        simp only [RAL] at h2; subst h2; simp only [lay] at h; cases h
        exact ⟨by simp only [List.take_zero, List.nil_append, List.length_nil, Nat.add_zero, List.drop_zero, RAL]; exact ⟨u, c, rfl, hu, h1⟩, by simp, rfl⟩
      | cons v vs =>
        simp only [RAL] at h2
        obtain ⟨u2, us, rfl, hu2, h2⟩ := h2
        simp only [lay] at h
        split at h
        · rename_i r' hr
          cases h
          obtain ⟨h3, h4, h5⟩ := ih h1 h2 hr
          refine ⟨?_, by simp at h4 ⊢; omega, by simp [h5]⟩
          simp only [List.take_zero, List.nil_append, Nat.zero_add, List.cons_append, List.length_cons, RAL] at h3 ⊢
          exact ⟨u2, _, rfl, hu2, by rw [show List.drop (us.length + 1) (u :: c) = List.drop us.length c from rfl]; exact h3⟩
        · cases h
    | succ off =>
      simp only [lay] at h
      split at h
      · rename_i r' hr
        cases h
        obtain ⟨h3, h4, h5⟩ := ih h1 h2 hr
        refine ⟨?_, by simp; omega, by simp [h5]⟩
        rw [show off + 1 + us.length = off + us.length + 1 by omega]
        simp only [List.take_succ_cons, List.cons_append, List.drop_succ_cons, RAL]
        exact ⟨u, _, rfl, hu, h3⟩
      · cases h

theorem store_run {t : TypeId} {x y : Operand} (ho : o.op = .store t x y) {b off : Nat} {c : Array Value} {e : TypeId} {us : List Value} (hx : a.eval x = .pointer (some ⟨b, off, none⟩))
    (hu : (a.eval y).cells.toList = us) (hn : us.length = P.cellsOf t) (h0 : 0 < P.cellsOf t) (hblk : w.heap[b]? = some (.cells c e (0, 0))) (hfit : off + us.length ≤ c.size) (hone : ∀ x ∈ us, x.oneCell' = true) :
    (execOp a.eval o).run P w = .ok .skip (w.setRow b (c.toList.take off ++ us ++ c.toList.drop (off + us.length)).toArray) := by
  obtain ⟨i, hi, hs⟩ := info_of_cells h0
  have hst := run_storeCells_at P b off e us 0 c w hblk (by simpa using hfit) hone
  simp only [Nat.add_zero] at hst
  have hsz : (a.eval y).cells.size = i.size := by rw [hs, ← hn, ← hu]; simp
  simp only [execOp, ho, Instr.storeAt, Instr.sureAddr, storeVar, hx, Sem.run_bind, Sem.run_pure, Result.andThen_ok, Go.sizeOf, typeInfo, run_program, hi, hsz, ne_eq, not_true_eq_false, if_false, hu, hst]

theorem setRow_new {g : Nat} {c cs : Array Value} {e : TypeId} (h : w.heap[g]? = some (.cells c e (0, 0))) : (w.setRow g cs).heap[g]? = some (.cells cs e (0, 0)) := setRow_heap w g c cs e (0, 0) h

theorem sound_store_box (h : Rel P X σ a w φ G M) {t : TypeId} {x y : Operand} (ho : o.op = .store t x y) (h0 : 0 < P.cellsOf t) {k off : Nat} {v : AV} {cs cs' : List AV}
    (hx : RA P φ G M w σ.heap (.ptr k off) (a.eval x)) (hy : RA P φ G M w σ.heap v (a.eval y)) (hn : (cellsOf v).length = P.cellsOf t) (hone : (cellsOf v).all AV.one = true)
    (hkk : hget σ.heap k = some (.box cs)) (hl : lay cs off (cellsOf v) = some cs') (hk : Cont P X σ { put := [(k, .box cs')] } .undef a o next) : o.wp P a w next Q := by
  simp only [RA] at hx
  obtain ⟨hx, _⟩ := hx
  have hob := h.heap.obj k _ hkk
  simp only [RObj] at hob
  obtain ⟨c, ty, hblk, hm, hcs⟩ := hob
  obtain ⟨h1, h2⟩ := one_cells hy hone
  obtain ⟨h3, h4, h5⟩ := lay_sound hcs h1 hl
  have hrun := store_run (P := P) (w := w) ho hx rfl (by rw [h1.len, hn]) h0 hblk (by simpa using h4) h2
  unfold Oper.wp
  rw [hrun]
  refine hk _ undef _ _ _ (h.wr hkk trivial hm (OneB.setRow _ _ _) (.box cs') trivial (fun E => ?_)) (by simp only [RA])
  simp only [RObj]
  exact ⟨_, ty, setRow_new hblk, hm, RAL.mono E _ _ (by simpa using h3)⟩
end
end Go.AM

namespace Go.AM
open Go.RowKit
section
variable {P : Program} {TT : TyTab} {N : Nat} {rowAt : List Nat} {X : Ctx} {σ : St} {a : Act} {w : World} {φ : Nat → Loc} {G M : Nat → Prop} {o : Oper} {next : Act → World → Prop} {Q : Exit → Act → World → Prop}

theorem addr_add (b o n : Nat) : (⟨b, o, none⟩ : Addr).add n = ⟨b, o + n, none⟩ := by unfold Addr.add; split <;> simp_all

theorem size_run {t : TypeId} (h : 0 < P.cellsOf t) : (Go.sizeOf t).run P w = .ok (P.cellsOf t) w := by
  obtain ⟨i, hi, hs⟩ := info_of_cells h
  simp [Go.sizeOf, typeInfo, hi, hs]

theorem sound_fld (h : Rel P X σ a w φ G M) {t : TypeId} {x : Operand} {i : Nat} {f : Field} (ho : o.op = .fieldAddr t x i) (hf : fieldOf P t i = some f) (h0 : 0 < P.cellsOf f.type)
    {p : AV} (hp : RA P φ G M w σ.heap p (a.eval x)) {need : Prop} {v : AV} {e : Eff} (hr : fldR f.offset p = .ok need v e) (hk : Cont P X σ e v a o next) : o.wp P a w next Q := by
  have run : ∀ b off, a.eval x = .pointer (some ⟨b, off, none⟩) → (execOp a.eval o).run P w = .ok (.value (.pointer (some ⟨b, off + f.offset, none⟩))) w := by
    intro b off hx
    unfold fieldOf at hf
    split at hf
    · rename_i fs hu
      have hne : P.cellsOf f.type ≠ 0 := by omega
      simp only [execOp, ho, Instr.fieldAt, Sem.run_bind, underlying, run_program, Result.andThen_ok, hu, Sem.run_pure, hf, hx, Instr.sureAddr, fieldPlace, size_run h0, hne, if_false, addr_add]
    · cases hf
  cases p with
  | ptr k off =>
    simp only [fldR] at hr; cases hr
    have hp' := hp
    simp only [RA] at hp
    refine wp_value h (run _ _ hp.1) ?_ hk
    simp only [RA]
    exact ⟨trivial, hp.2⟩
  | rptr k i off =>
    simp only [fldR] at hr; cases hr
    simp only [RA] at hp
    split at hp
    · rename_i ty xs fz hkk
      refine wp_value h (run _ _ hp.2) ?_ hk
      simp only [RA, hkk]
      exact ⟨hp.1, by rw [Nat.add_assoc]⟩
    · exact hp.elim
  | el ty x' off =>
    simp only [fldR] at hr; cases hr
    simp only [RA] at hp
    obtain ⟨hpl, b, ob, hx, rest⟩ := hp
    refine wp_value h (run _ _ hx) ?_ hk
    simp only [RA]
    exact ⟨hpl, b, ob, by rw [Nat.add_assoc], rest⟩
  | _ => simp [fldR] at hr

theorem sound_idx (h : Rel P X σ a w φ G M) {t e : TypeId} {x y : Operand} (ho : o.op = .indexAddr t x y) (hu : P.underlying t = some (.slice e))
    {p i : AV} (hp : RA P φ G M w σ.heap p (a.eval x)) (hi : RA P φ G M w σ.heap i (a.eval y)) {need : Prop} {v : AV} {ef : Eff} (hr : idxR σ.heap (P.cellsOf e) p i = .ok need v ef) (hn : need)
    (hk : Cont P X σ ef v a o next) : o.wp P a w next Q := by
  have run : ∀ b off len c k (n : Int), a.eval x = .slice (some ⟨b, off, none⟩) len c → a.eval y = .int k n → 0 ≤ n → n < len → 0 < P.cellsOf e →
      (execOp a.eval o).run P w = .ok (.value (.pointer (some ⟨b, off + n.toNat * P.cellsOf e, none⟩))) w := by
    intro b off len c k n hx hy h0 h1 hc
    simp [execOp, ho, Instr.indexAt, hx, hy, asIntOf, underlying, hu, h0, h1, size_run hc, addr_add]
  cases p with
  | sl ty xs full =>
    cases i with
    | int k n =>
      simp only [idxR] at hr
      split at hr
      · rename_i hs
        cases hr
        simp only [RA] at hp hi
        obtain ⟨hpl, hz, hrt, _⟩ := hp
        simp only [RT] at hrt
        obtain ⟨A, c, hx, _, hne⟩ := hrt
        simp only [List.cons.injEq, and_true] at hx
        have hlen : n.toNat < xs.length := by omega
        rcases hne with rfl | ⟨ad, rfl, hsp, hg, hcells⟩
        · simp at hlen
        · obtain ⟨b, ob, sp⟩ := ad
          simp only at hsp hg hcells
          subst hsp
          obtain ⟨cs, hl, hr2, hcell⟩ := hcells n.toNat hlen
          refine wp_value h (run _ _ _ _ _ _ hx hi hn.1 hn.2 (by omega)) ?_ hk
          simp only [RA]
          refine ⟨hpl, b, ob + n.toNat * P.cellsOf e, rfl, hg, cs, hl, ?_, fun j u hj => ?_⟩
          · simpa [List.getD, List.getElem?_eq_getElem hlen] using hr2
          · have := hcell j u hj
            rw [← hs]
            rwa [show ob + (n.toNat * size ty + j) = ob + n.toNat * size ty + j by omega] at this
      · cases hr
    | _ => simp [idxR] at hr
  | own k lo len =>
    cases i with
    | int kk n =>
      simp only [idxR] at hr
      split at hr
      · rename_i ty xs f hkk
        split at hr
        · rename_i hs
          cases hr
          simp only [RA, hkk] at hp hi
          obtain ⟨hle, A, hx, hcap, hA⟩ := hp
          have hA' := hA.resolve_left (by omega)
          subst hA'
          have hob := h.heap.obj k _ hkk
          simp only [RObj] at hob
          obtain ⟨⟨hpl, hz, _⟩, _⟩ := hob
          refine wp_value h (run _ _ _ _ _ _ hx hi hn.1 hn.2 (by omega)) ?_ hk
          simp only [RA, hkk]
          refine ⟨by omega, ?_⟩
          rw [← hs, Nat.add_mul]
          simp only [Nat.add_assoc, Nat.add_zero]
        · cases hr
      · cases hr
    | _ => simp [idxR] at hr
  | _ => cases i <;> simp [idxR] at hr

theorem sound_aidx (h : Rel P X σ a w φ G M) {t e : TypeId} {n : Nat} {x y : Operand} (ho : o.op = .indexAddr t x y) (hu : P.underlying t = some (.array n e)) (h0 : 0 < P.cellsOf e)
    {p i : AV} (hp : RA P φ G M w σ.heap p (a.eval x)) (hi : RA P φ G M w σ.heap i (a.eval y)) {T : Tab} {d : Nat} {need : Prop} {v : AV} {ef : Eff}
    (hr : run T d σ.heap (.aidx (P.cellsOf e) n) [p, i] = .ok need v ef) (hn : need) (hk : Cont P X σ ef v a o next) : o.wp P a w next Q := by
  have run : ∀ b off k (m : Int), a.eval x = .pointer (some ⟨b, off, none⟩) → a.eval y = .int k m → 0 ≤ m → m < n →
      (execOp a.eval o).run P w = .ok (.value (.pointer (some ⟨b, off + m.toNat * P.cellsOf e, none⟩))) w := by
    intro b off k m hx hy h1 h2
    simp [execOp, ho, Instr.indexAt, Instr.sureAddr, hx, hy, asIntOf, underlying, hu, h1, h2, size_run h0, addr_add]
  cases p with
  | ptr k off =>
    cases i with
    | int kk m =>
      simp only [AM.run] at hr
      cases hr
      simp only [RA] at hp hi
      refine wp_value h (run _ _ _ _ hp.1 hi hn.1 hn.2) ?_ hk
      simp only [RA]
      exact ⟨trivial, hp.2⟩
    | _ => simp [AM.run] at hr
  | rptr k j off =>
    cases i with
    | int kk m =>
      cases j with
      | zero =>
        cases off with
        | zero =>
          simp only [AM.run] at hr
          split at hr
          · rename_i ty xs f hkk
            split at hr
            · rename_i hs
              cases hr
              simp only [RA, hkk] at hp hi
              refine wp_value h (run _ _ _ _ hp.2 hi hn.1 hn.2.1) ?_ hk
              simp only [RA, hkk]
              refine ⟨by omega, ?_⟩
              rw [← hs]
              simp
            · cases hr
          · cases hr
        | succ off => simp [AM.run] at hr
      | succ j => cases off <;> simp [AM.run] at hr
    | _ => cases j <;> cases off <;> simp [AM.run] at hr
  | _ => cases i <;> simp [AM.run] at hr

/-! ### numbers -/
theorem wrap_in {k : IntKind} {n : Int} (h : InR k n) : k.wrap n = n := by
  unfold InR at h
  cases k <;> simp [IntKind.wrap, IntKind.min, IntKind.max, IntKind.bits, IntKind.signed] at h ⊢ <;> omega

theorem arith_run {op : BinOp} {k : IntKind} {x y : Int} {t : TypeId} {need : Prop} {v : AV} {e : Eff} (hr : arith op k x y = .ok need v e) (hn : need) :
    e = {} ∧ ∃ u, (binOp op t (.int k x) (.int k y)).run P w = .ok u w ∧ ∀ H, RA P φ G M w H v u := by
  cases op <;> simp only [arith] at hr
  case add =>
    cases k
    case i64 => cases hr; exact ⟨rfl, .int .i64 (x + y), by simp [binOp, Op.intArith, wrap_in hn], fun H => by simp only [RA]⟩
    case i8 => cases hr; exact ⟨rfl, .int .i8 (IntKind.i8.wrap (x + y)), by simp [binOp, Op.intArith], fun H => by simp only [RA]⟩
    case i16 => cases hr; exact ⟨rfl, .int .i16 (IntKind.i16.wrap (x + y)), by simp [binOp, Op.intArith], fun H => by simp only [RA]⟩
    case i32 => cases hr; exact ⟨rfl, .int .i32 (IntKind.i32.wrap (x + y)), by simp [binOp, Op.intArith], fun H => by simp only [RA]⟩
    case u8 => cases hr; exact ⟨rfl, .int .u8 (IntKind.u8.wrap (x + y)), by simp [binOp, Op.intArith], fun H => by simp only [RA]⟩
    case u16 => cases hr; exact ⟨rfl, .int .u16 (IntKind.u16.wrap (x + y)), by simp [binOp, Op.intArith], fun H => by simp only [RA]⟩
    case u32 => cases hr; exact ⟨rfl, .int .u32 (IntKind.u32.wrap (x + y)), by simp [binOp, Op.intArith], fun H => by simp only [RA]⟩
    case u64 => cases hr; exact ⟨rfl, .int .u64 (IntKind.u64.wrap (x + y)), by simp [binOp, Op.intArith], fun H => by simp only [RA]⟩
  case sub =>
    cases k
    case i64 => cases hr; exact ⟨rfl, .int .i64 (x - y), by simp [binOp, Op.intArith, wrap_in hn], fun H => by simp only [RA]⟩
    case i8 => cases hr; exact ⟨rfl, .int .i8 (IntKind.i8.wrap (x - y)), by simp [binOp, Op.intArith], fun H => by simp only [RA]⟩
    case i16 => cases hr; exact ⟨rfl, .int .i16 (IntKind.i16.wrap (x - y)), by simp [binOp, Op.intArith], fun H => by simp only [RA]⟩
    case i32 => cases hr; exact ⟨rfl, .int .i32 (IntKind.i32.wrap (x - y)), by simp [binOp, Op.intArith], fun H => by simp only [RA]⟩
    case u8 => cases hr; exact ⟨rfl, .int .u8 (IntKind.u8.wrap (x - y)), by simp [binOp, Op.intArith], fun H => by simp only [RA]⟩
    case u16 => cases hr; exact ⟨rfl, .int .u16 (IntKind.u16.wrap (x - y)), by simp [binOp, Op.intArith], fun H => by simp only [RA]⟩
    case u32 => cases hr; exact ⟨rfl, .int .u32 (IntKind.u32.wrap (x - y)), by simp [binOp, Op.intArith], fun H => by simp only [RA]⟩
    case u64 => cases hr; exact ⟨rfl, .int .u64 (IntKind.u64.wrap (x - y)), by simp [binOp, Op.intArith], fun H => by simp only [RA]⟩
  case mul =>
    cases k
    case i64 => cases hr; exact ⟨rfl, .int .i64 (x * y), by simp [binOp, Op.intArith, wrap_in hn], fun H => by simp only [RA]⟩
    case i8 => cases hr; exact ⟨rfl, .int .i8 (IntKind.i8.wrap (x * y)), by simp [binOp, Op.intArith], fun H => by simp only [RA]⟩
    case i16 => cases hr; exact ⟨rfl, .int .i16 (IntKind.i16.wrap (x * y)), by simp [binOp, Op.intArith], fun H => by simp only [RA]⟩
    case i32 => cases hr; exact ⟨rfl, .int .i32 (IntKind.i32.wrap (x * y)), by simp [binOp, Op.intArith], fun H => by simp only [RA]⟩
    case u8 => cases hr; exact ⟨rfl, .int .u8 (IntKind.u8.wrap (x * y)), by simp [binOp, Op.intArith], fun H => by simp only [RA]⟩
    case u16 => cases hr; exact ⟨rfl, .int .u16 (IntKind.u16.wrap (x * y)), by simp [binOp, Op.intArith], fun H => by simp only [RA]⟩
    case u32 => cases hr; exact ⟨rfl, .int .u32 (IntKind.u32.wrap (x * y)), by simp [binOp, Op.intArith], fun H => by simp only [RA]⟩
    case u64 => cases hr; exact ⟨rfl, .int .u64 (IntKind.u64.wrap (x * y)), by simp [binOp, Op.intArith], fun H => by simp only [RA]⟩
  case quo => cases hr; exact ⟨rfl, .int k (x.tdiv y), by simp [binOp, Op.intDiv, hn.1, wrap_in hn.2], fun H => by simp only [RA]⟩
  case rem => cases hr; exact ⟨rfl, .int k (x.tmod y), by simp only [ne_eq] at hn; simp [binOp, Op.intDiv, hn], fun H => by simp only [RA]⟩
  case eql => cases hr; exact ⟨rfl, .bool (decide (x = y)), by simp [binOp, Op.intCmp] <;> rfl, fun H => by simp only [RA]⟩
  case neq => cases hr; exact ⟨rfl, .bool (!decide (x = y)), by simp [binOp, Op.intCmp, bne] <;> rfl, fun H => by simp only [RA]⟩
  case lss => cases hr; exact ⟨rfl, .bool (decide (x < y)), by simp [binOp, Op.intCmp], fun H => by simp only [RA]⟩
  case leq => cases hr; exact ⟨rfl, .bool (decide (x ≤ y)), by simp [binOp, Op.intCmp], fun H => by simp only [RA]⟩
  case gtr => cases hr; exact ⟨rfl, .bool (decide (y < x)), by simp [binOp, Op.intCmp], fun H => by simp only [RA]⟩
  case geq => cases hr; exact ⟨rfl, .bool (decide (y ≤ x)), by simp [binOp, Op.intCmp], fun H => by simp only [RA]⟩
  all_goals cases hr

theorem sound_bin (h : Rel P X σ a w φ G M) {t t' : TypeId} {op : BinOp} {x y : Operand} (ho : o.op = .binOp op t x y t') {p q : AV} (hp : RA P φ G M w σ.heap p (a.eval x)) (hq : RA P φ G M w σ.heap q (a.eval y))
    {need : Prop} {v : AV} {ef : Eff} (hr : bin op p q = .ok need v ef) (hn : need) (hk : Cont P X σ ef v a o next) : o.wp P a w next Q := by
  cases p with
  | int k m =>
    cases q with
    | int k' n =>
      simp only [bin] at hr
      split at hr
      · rename_i e
        subst e
        obtain ⟨rfl, u, hrun, hra⟩ := arith_run (P := P) (w := w) (φ := φ) (G := G) (M := M) (t := t) hr hn
        simp only [RA] at hp hq
        refine wp_value h ?_ (hra σ.heap) hk
        have hg : (eqGuard op t x y (.int k m) (.int k n)).run P w = .ok () w := by unfold eqGuard; split <;> rfl
        simp only [execOp, ho, hp, hq, Sem.run_bind, hg, Result.andThen_ok, hrun, Sem.run_pure]
      · cases hr
    | _ => simp [bin] at hr
  | str m =>
    cases q with
    | str n =>
      simp only [RA] at hp hq
      have hg : (eqGuard op t x y (.string m) (.string n)).run P w = .ok () w := by unfold eqGuard; split <;> rfl
      cases op <;> simp only [bin] at hr
      case add =>
        cases hr
        refine wp_value h (u := .string (m ++ n)) ?_ (by simp only [RA]) hk
        simp only [execOp, ho, hp, hq, Sem.run_bind, hg, Result.andThen_ok]
        simp [binOp, Op.stringOp]
        omega
      case eql =>
        cases hr
        refine wp_value h (u := .bool (m.toList == n.toList)) ?_ (by simp only [RA]) hk
        simp only [execOp, ho, hp, hq, Sem.run_bind, hg, Result.andThen_ok]
        simp [binOp, Op.stringOp]
      case neq =>
        cases hr
        refine wp_value h (u := .bool (!(m.toList == n.toList))) ?_ (by simp only [RA]) hk
        simp only [execOp, ho, hp, hq, Sem.run_bind, hg, Result.andThen_ok]
        simp [binOp, Op.stringOp]
      all_goals cases hr
    | _ => simp [bin] at hr
  | _ => cases q <;> simp [bin] at hr

theorem sound_binb (h : Rel P X σ a w φ G M) {t t' : TypeId} {op : BinOp} {x y : Operand} (ho : o.op = .binOp op t x y t') (hu : P.underlying t = some .bool) {p q : Bool} (hp : RA P φ G M w σ.heap (.bool p) (a.eval x)) (hq : RA P φ G M w σ.heap (.bool q) (a.eval y))
    {r : Bool} (hr : (op = .eql ∧ r = (p == q)) ∨ (op = .neq ∧ r = !(p == q))) (hk : Cont P X σ {} (.bool r) a o next) : o.wp P a w next Q := by
  simp only [RA] at hp hq
  have hg : (eqGuard op t x y (.bool p) (.bool q)).run P w = .ok () w := by unfold eqGuard; split <;> rfl
  have he : (Op.equal t (.bool p) (.bool q)).run P w = .ok (p == q) w := by
    unfold Op.equal
    obtain ⟨n, hn⟩ : ∃ n, Op.maxDepth = n + 1 := ⟨9999, rfl⟩
    rw [hn]
    simp only [Op.equalIn, underlying, hu, Sem.run_bind, run_program, Result.andThen_ok, Sem.run_pure]
  refine wp_value h (u := .bool r) ?_ (by simp only [RA]) hk
  rcases hr with ⟨rfl, rfl⟩ | ⟨rfl, rfl⟩ <;>
  · simp only [execOp, ho, hp, hq, Sem.run_bind, hg, Result.andThen_ok]
    simp [binOp, he]

theorem sound_neg (h : Rel P X σ a w φ G M) {t : TypeId} {x : Operand} (ho : o.op = .unOp .neg t x) {k : IntKind} {n : Int} (hp : RA P φ G M w σ.heap (.int k n) (a.eval x))
    {need : Prop} {v : AV} {ef : Eff} (hr : arith .sub k 0 n = .ok need v ef) (hn : need) (hk : Cont P X σ ef v a o next) : o.wp P a w next Q := by
  obtain ⟨rfl, u, hrun, hra⟩ := arith_run (P := P) (w := w) (φ := φ) (G := G) (M := M) (t := t) hr hn
  simp only [RA] at hp
  refine wp_value h (u := u) ?_ (hra σ.heap) hk
  have : (Op.unary .neg (.int k n)).run P w = .ok u w := by simpa [binOp, Op.unary] using hrun
  simp only [execOp, ho, hp, Sem.run_bind, this, Result.andThen_ok, Sem.run_pure]

theorem sound_not (h : Rel P X σ a w φ G M) {t : TypeId} {x : Operand} (ho : o.op = .unOp .not t x) {b : Bool} (hp : RA P φ G M w σ.heap (.bool b) (a.eval x))
    (hk : Cont P X σ {} (.bool (!b)) a o next) : o.wp P a w next Q := by
  simp only [RA] at hp
  refine wp_value h (u := .bool (!b)) ?_ (by simp only [RA]) hk
  simp [execOp, ho, hp, Op.unary]

theorem sound_isnil (h : Rel P X σ a w φ G M) {t t' e : TypeId} {x y : Operand} (ho : o.op = .binOp .eql t x y t') (hy : a.eval y = .slice none 0 0) (hu : P.underlying t = some (.slice e)) {ty : Ty} {xs : List (den ty)} {f : Bool}
    (hp : RA P φ G M w σ.heap (.sl ty xs f) (a.eval x)) (hk : ∀ b : Bool, (xs ≠ [] → b = false) → Cont P X σ {} (.bool b) a o next) : o.wp P a w next Q := by
  simp only [RA, RT] at hp
  obtain ⟨_, _, ⟨A, c, hx, _, hne⟩, _⟩ := hp
  simp only [List.cons.injEq, and_true] at hx
  have hg : (eqGuard .eql t x y (.slice A xs.length c) (.slice none 0 0)).run P w = .ok () w := by unfold eqGuard; rfl
  have he : (Op.equal t (.slice A xs.length c) (.slice none 0 0)).run P w = .ok A.isNone w := by
    unfold Op.equal
    obtain ⟨n, hn⟩ : ∃ n, Op.maxDepth = n + 1 := ⟨9999, rfl⟩
    rw [hn]
    cases A <;> simp only [Op.equalIn, underlying, hu, Sem.run_bind, run_program, Result.andThen_ok, Sem.run_pure, Option.isNone]
  refine wp_value h (u := .bool A.isNone) ?_ (by simp only [RA]) (hk A.isNone fun hxs => ?_)
  · simp only [execOp, ho, hx, hy, Sem.run_bind, hg, Result.andThen_ok]
    simp [binOp, he]
  · rcases hne with rfl | ⟨ad, rfl, _⟩
    · exact absurd rfl hxs
    · rfl
end
end Go.AM

namespace Go.AM
open Go.RowKit
section
variable {P : Program} {TT : TyTab} {N : Nat} {rowAt : List Nat} {X : Ctx} {σ : St} {a : Act} {w : World} {φ : Nat → Loc} {G M : Nat → Prop} {o : Oper} {next : Act → World → Prop} {Q : Exit → Act → World → Prop}

inductive All2 {α β : Type} (R : α → β → Prop) : List α → List β → Prop where
  | nil : All2 R [] []
  | cons {x : α} {y : β} {xs : List α} {ys : List β} (h : R x y) (t : All2 R xs ys) : All2 R (x :: xs) (y :: ys)

theorem fold_lay (off : Nat) : ∀ (us : List Value) (i : Nat) (cs : Array Value), off + i + us.length ≤ cs.size →
    ((us.zipIdx i).foldl (fun cs (p : Value × Nat) => cs.setIfInBounds (off + p.2) p.1) cs).toList = cs.toList.take (off + i) ++ us ++ cs.toList.drop (off + i + us.length) := by
  intro us
  induction us with
  | nil => intro i cs h; simp
  | cons u us ih =>
    intro i cs h
    simp only [List.zipIdx_cons, List.foldl_cons]
    rw [ih (i + 1) _ (by simp at h ⊢; omega)]
    have e := list_seg_step cs.toList (off + i) u us (by simp at h ⊢; omega)
    simpa [Array.toList_setIfInBounds, Nat.add_assoc] using e

theorem fill_cons {place : Nat → Option (Nat × Nat)} {cells : Array Value} {i off n : Nat} {v : Value} {rest : List (Nat × Value)} (hp : place i = some (off, n)) (hn : v.cells.size = n) (hf : off + n ≤ cells.size) :
    Instr.fill place cells ((i, v) :: rest) = Instr.fill place (cells.toList.take off ++ v.cells.toList ++ cells.toList.drop (off + n)).toArray rest := by
  have hl := fold_lay off v.cells.toList 0 cells (by simpa [hn] using hf)
  simp only [Nat.add_zero, Array.length_toList, hn] at hl
  have he : v.cells.zipIdx.foldl (fun cs (p : Value × Nat) => cs.setIfInBounds (off + p.2) p.1) cells = (cells.toList.take off ++ v.cells.toList ++ cells.toList.drop (off + n)).toArray := by
    apply Array.toList_inj.1
    rw [← hl, ← Array.foldl_toList]
    simp
  simp only [Instr.fill, hp]
  rw [if_neg (by simp [hn]; omega)]
  simp only [he]

/-- What a struct's, an array's parts are laid at. -/
theorem fill_sound {H : Heap} {place : Nat → Option (Nat × Nat)} : ∀ {ps : List (Nat × Operand)} {qs : List (Nat × Nat)} {os : List Opd} {zs r : List AV} {c : Array Value},
    (∀ i x, (i, x) ∈ ps → True) → RAL P φ G M w H zs c.toList → RAL P φ G M w H (bareL (vals σ.env os)) (ps.map fun p => a.eval p.2) →
    (All2 (fun (p : Nat × Operand) (q : Nat × Nat) => place p.1 = some q) ps qs) → layAll zs qs (bareL (vals σ.env os)) = some r →
    ∃ c', Instr.fill place c (ps.map fun p => (p.1, a.eval p.2)) = some c' ∧ RAL P φ G M w H r c'.toList := by
  intro ps
  induction ps with
  | nil =>
    intro qs os zs r c _ hz hv hq hl
    cases hq
    simp only [List.map_nil] at hv ⊢
    cases hb : bareL (vals σ.env os) with
    | nil => rw [hb] at hl; simp only [layAll] at hl; cases hl; exact ⟨c, rfl, hz⟩
    | cons v vs => rw [hb] at hv; simp only [RAL] at hv; obtain ⟨_, _, he, _⟩ := hv; cases he
  | cons p ps ih =>
    intro qs os zs r c _ hz hv hq hl
    cases hq with
    | cons hp hq =>
      rename_i q qs
      cases os with
      | nil => simp [vals, bareL, layAll] at hl
      | cons y os =>
        simp only [vals, bareL, List.map_cons, RAL] at hv
        obtain ⟨u, us', he, hu, hv⟩ := hv
        simp only [List.cons.injEq] at he
        obtain ⟨rfl, rfl⟩ := he
        obtain ⟨off, n⟩ := q
        simp only [vals, bareL, layAll] at hl
        split at hl
        · rename_i hc
          split at hl
          · rename_i zs' hlay
            obtain ⟨h1, _⟩ := one_cells hu hc.2
            obtain ⟨h3, h4, _⟩ := lay_sound hz h1 hlay
            have hn : (a.eval p.2).cells.size = n := by rw [← hc.1, ← h1.len]; simp
            have hlen : (a.eval p.2).cells.toList.length = n := by simpa using hn
            rw [hlen] at h3 h4
            obtain ⟨c', hf, hr⟩ := ih (c := (c.toList.take off ++ (a.eval p.2).cells.toList ++ c.toList.drop (off + n)).toArray) (fun _ _ _ => trivial) (by simpa using h3) hv hq hl
            refine ⟨c', ?_, hr⟩
            simp only [List.map_cons]
            rw [fill_cons hp hn (by simpa using h4)]
            exact hf
          · cases hl
        · cases hl

theorem parts_vals (h : Rel P X σ a w φ G M) {t : TypeId} : ∀ {ps : List (Nat × Operand)} {qs : List (Nat × Nat)} {os : List Opd}, partsOf P TT N t ps = some (qs, os) →
    RAL P φ G M w σ.heap (vals σ.env os) (ps.map fun p => a.eval p.2) := by
  intro ps
  induction ps with
  | nil => intro qs os hp; simp only [partsOf] at hp; cases hp; simp only [vals, List.map_nil, RAL]
  | cons p ps ih =>
    intro qs os hp
    obtain ⟨i, x⟩ := p
    simp only [partsOf] at hp
    split at hp
    · rename_i qs' os' hps
      split at hp
      · split at hp
        · split at hp
          · rename_i y hy; cases hp
            simp only [vals, List.map_cons, RAL]
            exact ⟨_, _, rfl, opd_sound h hy, ih hps⟩
          · cases hp
        · cases hp
      · split at hp
        · rename_i y hy; cases hp
          simp only [vals, List.map_cons, RAL]
          exact ⟨_, _, rfl, opd_sound h hy, ih hps⟩
        · cases hp
      · cases hp
    · cases hp

theorem parts_struct {t : TypeId} {fs : Array Field} (hu : P.underlying t = some (.struct fs)) : ∀ {ps : List (Nat × Operand)} {qs : List (Nat × Nat)} {os : List Opd}, partsOf P TT N t ps = some (qs, os) →
    All2 (fun (p : Nat × Operand) (q : Nat × Nat) => (fs.map fun f => (f.offset, P.cellsOf f.type))[p.1]? = some q) ps qs := by
  intro ps
  induction ps with
  | nil => intro qs os hp; simp only [partsOf] at hp; cases hp; exact .nil
  | cons p ps ih =>
    intro qs os hp
    obtain ⟨i, x⟩ := p
    simp only [partsOf, hu] at hp
    split at hp
    · rename_i qs' os' hps
      split at hp
      · rename_i f hf
        split at hp
        · cases hp
          exact .cons (by simp [hf]) (ih hps)
        · cases hp
      · cases hp
    · cases hp

theorem parts_array {t e : TypeId} {n : Nat} (hu : P.underlying t = some (.array n e)) : ∀ {ps : List (Nat × Operand)} {qs : List (Nat × Nat)} {os : List Opd}, partsOf P TT N t ps = some (qs, os) →
    All2 (fun (p : Nat × Operand) (q : Nat × Nat) => some (p.1 * P.cellsOf e, P.cellsOf e) = some q) ps qs := by
  intro ps
  induction ps with
  | nil => intro qs os hp; simp only [partsOf] at hp; cases hp; exact .nil
  | cons p ps ih =>
    intro qs os hp
    obtain ⟨i, x⟩ := p
    simp only [partsOf, hu] at hp
    split at hp
    · rename_i qs' os' hps
      split at hp
      · cases hp
        exact .cons rfl (ih hps)
      · cases hp
    · cases hp

theorem size_run' {t : TypeId} (h : (P.info? t).isSome = true) : (Go.sizeOf t).run P w = .ok (P.cellsOf t) w := by
  cases hi : P.info? t with
  | none => simp [hi] at h
  | some i => simp [Go.sizeOf, typeInfo, hi, Program.cellsOf]

theorem mapM_fields : ∀ (fs : List Field), (∀ f ∈ fs, (P.info? f.type).isSome = true) → (fs.mapM fun f => do pure (f.offset, ← Go.sizeOf f.type) : Sem (List (Nat × Nat))).run P w = .ok (fs.map fun f => (f.offset, P.cellsOf f.type)) w := by
  intro fs
  induction fs with
  | nil => intro _; rfl
  | cons f fs ih =>
    intro h
    rw [List.mapM_cons]
    simp only [Sem.run_bind, size_run' (h f (by simp)), Result.andThen_ok, Sem.run_pure, ih (fun g hg => h g (by simp [hg])), List.map_cons]

theorem sound_build (h : Rel P X σ a w φ G M) {t : TypeId} {ps : Array (Nat × Operand)} (ho : o.op = .build t ps) {zs r : List AV} {qs : List (Nat × Nat)} {os : List Opd} (hz : compZero P TT t = some zs)
    (hp : partsOf P TT N t ps.toList = some (qs, os)) (hkn : partsKnown P t = true) (hs : sureL (vals σ.env os)) (hl : layAll zs qs (bareL (vals σ.env os)) = some r)
    (hk : Cont P X σ {} (.agg r) a o next) : o.wp P a w next Q := by
  obtain ⟨hz1, hz2⟩ := compZero_sound (φ := φ) (G := G) (M := M) (w := w) (H := σ.heap) hz
  obtain ⟨z, hzr, hzc⟩ := zero_run (w := w) hz1
  have hv := bareL_sound hs (parts_vals h hp)
  have hz3 : RAL P φ G M w σ.heap zs z.cells.toList := by rw [hzc]; exact hz2
  have hlist : (ps.map fun (p : Nat × Operand) => (p.1, a.eval p.2)).toList = ps.toList.map fun p => (p.1, a.eval p.2) := by simp
  unfold partsKnown at hkn
  split at hkn
  · rename_i fs hu
    obtain ⟨c', hf, hr⟩ := fill_sound (place := ((fs.map fun f => (f.offset, P.cellsOf f.type))[·]?)) (fun _ _ _ => trivial) hz3 hv (parts_struct hu hp) hl
    have hm := mapM_fields (P := P) (w := w) fs.toList (fun f hf => by simpa using (Array.all_eq_true_iff_forall_mem.1 hkn) f (Array.mem_toList_iff.1 hf))
    have hm' : (fs.mapM fun f => do pure (f.offset, ← Go.sizeOf f.type) : Sem (Array (Nat × Nat))).run P w = .ok (fs.map fun f => (f.offset, P.cellsOf f.type)) w := by
      rw [Array.mapM_eq_mapM_toList]
      simp only [Sem.run_map, hm, Result.andThen_ok]
      congr 1
      apply Array.toList_inj.1
      simp
    refine wp_value h (u := .agg c') ?_ (by simp only [RA]; exact ⟨c', rfl, hr⟩) hk
    have hf' : Instr.fill (fun x => (fs.map fun f => (f.offset, P.cellsOf f.type))[x]?) z.cells (ps.map fun (p : Nat × Operand) => (p.1, a.eval p.2)).toList = some c' := by rw [hlist]; exact hf
    simp only [execOp, ho, Instr.build, Sem.run_bind, hzr, Result.andThen_ok, underlying, run_program, hu, Sem.run_pure, hm']
    rw [hf']
    rfl
  · rename_i n e hu
    obtain ⟨c', hf, hr⟩ := fill_sound (place := fun i => some (i * P.cellsOf e, P.cellsOf e)) (fun _ _ _ => trivial) hz3 hv (parts_array hu hp) hl
    refine wp_value h (u := .agg c') ?_ (by simp only [RA]; exact ⟨c', rfl, hr⟩) hk
    have hf' : Instr.fill (fun i => some (i * P.cellsOf e, P.cellsOf e)) z.cells (ps.map fun (p : Nat × Operand) => (p.1, a.eval p.2)).toList = some c' := by rw [hlist]; exact hf
    simp only [execOp, ho, Instr.build, Sem.run_bind, hzr, Result.andThen_ok, underlying, run_program, hu, Sem.run_pure, size_run' hkn]
    rw [hf']
    rfl
  · cases hkn

/-! ### small ones -/
theorem sound_ext (h : Rel P X σ a w φ G M) {x : Operand} {i : Nat} (ho : o.op = .extract x i) {vs : List AV} {v : AV} (hp : RA P φ G M w σ.heap (.tup vs) (a.eval x)) (hv : vs[i]? = some v)
    (hk : Cont P X σ {} v a o next) : o.wp P a w next Q := by
  simp only [RA] at hp
  obtain ⟨us, hx, hr⟩ := hp
  obtain ⟨u, hu, hra⟩ := hr.get hv
  refine wp_value h (u := u) ?_ hra hk
  have hu' : us[i]? = some u := by rw [← Array.getElem?_toList]; exact hu
  simp [execOp, ho, hx, Instr.extract, hu']

theorem sound_mv (h : Rel P X σ a w φ G M) {x : Operand} (ho : o.op = .move x ∨ o.op = .assign x) {v : AV} (hp : RA P φ G M w σ.heap v (a.eval x)) (hk : Cont P X σ {} v a o next) : o.wp P a w next Q := by
  refine wp_value h (u := a.eval x) ?_ hp hk
  rcases ho with ho | ho <;> simp [execOp, ho]

theorem sound_clo (h : Rel P X σ a w φ G M) {f : Nat} {first caps : Array Operand} (ho : o.op = .makeFunc (.func f) first caps) (h0 : first.size = 0) {vs : List AV} (hp : RAL P φ G M w σ.heap vs (caps.toList.map a.eval))
    (hk : Cont P X σ {} (.clo f vs) a o next) : o.wp P a w next Q := by
  have e : first = #[] := Array.eq_empty_of_size_eq_zero h0
  subst e
  refine wp_value h (u := .func (.func f) #[] (caps.map a.eval)) ?_ (by simp only [RA]; exact ⟨_, rfl, by simpa using hp⟩) hk
  simp [execOp, ho, Instr.makeFunc]

theorem sound_nilchk (h : Rel P X σ a w φ G M) {x : Operand} (ho : o.op = .nilCheck x) {v : AV} (hp : RA P φ G M w σ.heap v (a.eval x)) {T : Tab} {d : Nat} {H : Heap} {need : Prop} {v' : AV} {e : Eff} (hr : AM.run T d H .nilchk [v] = .ok need v' e)
    (hk : Cont P X σ e v' a o next) : o.wp P a w next Q := by
  cases v with
  | ptr k off => simp only [AM.run] at hr; cases hr; have hp' := hp; simp only [RA] at hp'; refine wp_value h (u := a.eval x) ?_ hp hk; simp [execOp, ho, hp'.1]
  | rptr k i off =>
    simp only [AM.run] at hr; cases hr; have hp' := hp; simp only [RA] at hp'
    split at hp'
    · refine wp_value h (u := a.eval x) ?_ hp hk; simp [execOp, ho, hp'.2]
    · exact hp'.elim
  | el t y off => simp only [AM.run] at hr; cases hr; have hp' := hp; simp only [RA] at hp'; obtain ⟨_, b, ob, hx, _⟩ := hp'; refine wp_value h (u := a.eval x) ?_ hp hk; simp [execOp, ho, hx]
  | clo f cs => simp only [AM.run] at hr; cases hr; have hp' := hp; simp only [RA] at hp'; obtain ⟨us, hx, _⟩ := hp'; refine wp_value h (u := a.eval x) ?_ hp hk; simp [execOp, ho, hx]
  | fv b r p => simp only [AM.run] at hr; cases hr; have hp' := hp; simp only [RA] at hp'; obtain ⟨f, caps, wd, hx, _⟩ := hp'; refine wp_value h (u := a.eval x) ?_ hp hk; simp [execOp, ho, hx]
  | _ => simp [AM.run] at hr

theorem sound_len (h : Rel P X σ a w φ G M) {c : Call} (ho : o.op = .call c) (hc : c.callee = .builtin .len) {t : TypeId} {x : Operand} (hx : c.args.toList = [x]) (ht : c.argTypes.toList = [t]) {e : TypeId} (hu : P.underlying t = some (.slice e))
    {p : AV} (hp : RA P φ G M w σ.heap p (a.eval x)) {T : Tab} {d : Nat} {H : Heap} {need : Prop} {v : AV} {ef : Eff} (hr : AM.run T d H .len [p] = .ok need v ef)
    (hk : Cont P X σ ef v a o next) : o.wp P a w next Q := by
  obtain ⟨callee, args, ats⟩ := c
  simp only at hc hx ht
  subst hc
  have ea : args = #[x] := Array.toList_inj.1 (by simpa using hx)
  have et : ats = #[t] := Array.toList_inj.1 (by simpa using ht)
  subst ea; subst et
  cases p with
  | sl ty xs f =>
    simp only [AM.run] at hr; cases hr
    simp only [RA, RT] at hp
    obtain ⟨_, _, ⟨A, cc, hx, _⟩, _⟩ := hp
    simp only [List.cons.injEq, and_true] at hx
    refine wp_value h (u := .int .i64 xs.length) ?_ (by simp only [RA]) hk
    simp [execOp, ho, resolve, invoke, builtin, Builtin.len_, underlying, hu, hx, goInt]
  | own k lo len =>
    simp only [AM.run] at hr; cases hr
    simp only [RA] at hp
    split at hp
    · obtain ⟨_, A, hx, _⟩ := hp
      refine wp_value h (u := .int .i64 len) ?_ (by simp only [RA]) hk
      simp [execOp, ho, resolve, invoke, builtin, Builtin.len_, underlying, hu, hx, goInt]
    · exact hp.elim
  | _ => simp [AM.run] at hr
theorem sound_lens (h : Rel P X σ a w φ G M) {c : Call} (ho : o.op = .call c) (hc : c.callee = .builtin .len) {t : TypeId} {x : Operand} (hx : c.args.toList = [x]) (ht : c.argTypes.toList = [t]) (hu : P.underlying t = some .string)
    {p : AV} (hp : RA P φ G M w σ.heap p (a.eval x)) {T : Tab} {d : Nat} {H : Heap} {need : Prop} {v : AV} {ef : Eff} (hr : AM.run T d H .lens [p] = .ok need v ef)
    (hk : Cont P X σ ef v a o next) : o.wp P a w next Q := by
  obtain ⟨callee, args, ats⟩ := c
  simp only at hc hx ht
  subst hc
  have ea : args = #[x] := Array.toList_inj.1 (by simpa using hx)
  have et : ats = #[t] := Array.toList_inj.1 (by simpa using ht)
  subst ea; subst et
  cases p with
  | str s =>
    simp only [AM.run] at hr; cases hr
    simp only [RA] at hp
    refine wp_value h (u := .int .i64 s.size) ?_ (by simp only [RA]) hk
    simp [execOp, ho, resolve, invoke, builtin, Builtin.len_, underlying, hu, hp, goInt]
  | _ => simp [AM.run] at hr
end
end Go.AM

namespace Go.AM
open Go.RowKit
section
variable {P : Program} {TT : TyTab} {N : Nat} {rowAt : List Nat} {X : Ctx} {σ : St} {a : Act} {w : World} {φ : Nat → Loc} {G M : Nat → Prop} {o : Oper} {next : Act → World → Prop} {Q : Exit → Act → World → Prop}

/-- A value's cells are its data's. -/
theorem RV.cells {t : Ty} {x : den t} {u : Value} (h : RV P t G w x u) : RT P t G w x u.cells.toList := by
  unfold RV at h
  cases t with
  | unit => simp only [isSt, if_true] at h; obtain ⟨cs, rfl, h⟩ := h; exact h
  | pair a b => simp only [isSt, if_true] at h; obtain ⟨cs, rfl, h⟩ := h; exact h
  | int k => simp only [isSt, Bool.false_eq_true, if_false] at h; have h' := h; simp only [RT, List.cons.injEq, and_true] at h'; subst h'; exact h
  | bool => simp only [isSt, Bool.false_eq_true, if_false] at h; have h' := h; simp only [RT, List.cons.injEq, and_true] at h'; subst h'; exact h
  | str => simp only [isSt, Bool.false_eq_true, if_false] at h; have h' := h; simp only [RT, List.cons.injEq, and_true] at h'; subst h'; exact h
  | list t => simp only [isSt, Bool.false_eq_true, if_false] at h; have h' := h; simp only [RT, List.cons.injEq, and_true] at h'; obtain ⟨A, c, rfl, _⟩ := h'; exact h
  | olist t => simp only [isSt, Bool.false_eq_true, if_false] at h; have h' := h; simp only [RT, List.cons.injEq, and_true] at h'; obtain ⟨A, c, rfl, _⟩ := h'; exact h
  | flist t => simp only [isSt, Bool.false_eq_true, if_false] at h; have h' := h; simp only [RT, List.cons.injEq, and_true] at h'; obtain ⟨A, c, rfl, _⟩ := h'; exact h
  | fn b r => simp only [isSt, Bool.false_eq_true, if_false] at h; have h' := h; simp only [RT, List.cons.injEq, and_true] at h'; obtain ⟨f, c, wd, rfl, _⟩ := h'; exact h
  | ref t => simp only [isSt, Bool.false_eq_true, if_false] at h; have h' := h; simp only [RT, List.cons.injEq, and_true] at h'; obtain ⟨ad, rfl, _⟩ := h'; exact h

theorem fill_order {S : Nat} : ∀ {us : List Value} {j : Nat} {c : Array Value} {ps : List (Nat × Value)}, ps = (us.zipIdx j).map (fun p => (p.2, p.1)) → (∀ u ∈ us, u.cells.size = S) → (j + us.length) * S ≤ c.size →
    ∃ c', Instr.fill (fun i => some (i * S, S)) c ps = some c' ∧ c'.toList = c.toList.take (j * S) ++ us.flatMap (fun u => u.cells.toList) ++ c.toList.drop ((j + us.length) * S) := by
  intro us
  induction us with
  | nil => intro j c ps hp _ hf; subst hp; exact ⟨c, rfl, by simp⟩
  | cons u us ih =>
    intro j c ps hp hu hf
    subst hp
    simp only [List.zipIdx_cons, List.map_cons]
    have hus := hu u (by simp)
    have hj : j * S + S ≤ c.size := by
      have : (j + 1) * S ≤ (j + (u :: us).length) * S := Nat.mul_le_mul_right _ (by simp)
      rw [Nat.add_mul] at this
      omega
    rw [fill_cons rfl hus hj]
    have hsz : (c.toList.take (j * S) ++ u.cells.toList ++ c.toList.drop (j * S + S)).toArray.size = c.size := by
      simp [hus]; omega
    obtain ⟨c', h1, h2⟩ := ih (j := j + 1) (c := (c.toList.take (j * S) ++ u.cells.toList ++ c.toList.drop (j * S + S)).toArray) rfl (fun x hx => hu x (by simp [hx])) (by rw [hsz]; simpa [Nat.add_assoc, Nat.add_comm 1] using hf)
    refine ⟨c', h1, ?_⟩
    rw [h2]
    have e1 : (c.toList.take (j * S) ++ u.cells.toList ++ c.toList.drop (j * S + S)).take ((j + 1) * S) = c.toList.take (j * S) ++ u.cells.toList := by
      rw [List.take_append_of_le_length (by simp [hus, Nat.add_mul]; omega)]
      rw [List.take_of_length_le (by simp [hus, Nat.add_mul]; omega)]
    have e2 : (c.toList.take (j * S) ++ u.cells.toList ++ c.toList.drop (j * S + S)).drop ((j + 1 + us.length) * S) = c.toList.drop ((j + (us.length + 1)) * S) := by
      have hl : (c.toList.take (j * S) ++ u.cells.toList).length = j * S + S := by simp [hus]; omega
      have hmul : (j + 1 + us.length) * S = j * S + S + us.length * S := by rw [Nat.add_mul, Nat.add_mul, Nat.one_mul]
      rw [List.drop_append, hl, hmul, List.drop_of_length_le (by omega), List.nil_append, List.drop_drop]
      congr 1
      rw [Nat.add_mul, Nat.add_mul, Nat.one_mul]; omega
    have e0 : ∀ l : List Value, l.toArray.toList = l := fun _ => rfl
    rw [e0, e1, e2]
    simp only [List.flatMap_cons, List.append_assoc, List.length_cons]

/-- A part of a concatenation. -/
theorem part_flat {S : Nat} : ∀ {us : List Value} {i : Nat}, (∀ u ∈ us, u.cells.size = S) → (h : i < us.length) → ((us.flatMap fun u => u.cells.toList).drop (i * S)).take S = (us[i]).cells.toList := by
  intro us
  induction us with
  | nil => intro i _ h; simp at h
  | cons u us ih =>
    intro i hu h
    have hus := hu u (by simp)
    cases i with
    | zero =>
      simp only [Nat.zero_mul, List.drop_zero, List.flatMap_cons, List.getElem_cons_zero]
      rw [List.take_append_of_le_length (by simp [hus]), List.take_of_length_le (by simp [hus])]
    | succ i =>
      simp only [List.flatMap_cons, List.getElem_cons_succ]
      rw [List.drop_append, show (i + 1) * S = S + i * S by rw [Nat.add_mul]; omega, List.drop_of_length_le (by simp [hus]), List.nil_append]
      rw [show S + i * S - u.cells.toList.length = i * S by simp [hus]]
      exact ih (fun x hx => hu x (by simp [hx])) (by simpa using h)

theorem dataAll_sound {H : Heap} (hH : RelH P φ G M w H) {t : Ty} (hn : noRef t = true) : ∀ {vs : List AV} {us : List Value} {xs : List (den t)}, Frozen H (vs.flatMap fun v => keysC (cellsOf v)) → RAL P φ G M w H vs us → dataAll H t vs = some xs →
    xs.length = us.length ∧ ∀ i, (h1 : i < xs.length) → (h2 : i < us.length) → RT P t G w xs[i] (us[i]).cells.toList := by
  intro vs
  induction vs with
  | nil => intro us xs _ hr h; simp only [RAL] at hr; subst hr; simp only [dataAll] at h; cases h; exact ⟨rfl, fun i h1 => by simp at h1⟩
  | cons v vs ih =>
    intro us xs hf hr h
    simp only [RAL] at hr
    obtain ⟨u, us', rfl, hu, hr⟩ := hr
    simp only [dataAll] at h
    split at h
    · rename_i x hx
      split at h
      · rename_i ys hys
        cases h
        obtain ⟨h1, h2⟩ := ih (fun k hk => hf k (by rw [List.flatMap_cons]; exact List.mem_append_right _ hk)) hr hys
        refine ⟨by simp [h1], fun i hi1 hi2 => ?_⟩
        cases i with
        | zero => exact (toV_sound hH (fun _ h => h) (.inr ⟨hn, fun k hk => hf k (by rw [List.flatMap_cons]; exact List.mem_append_left _ hk)⟩) hu hx).cells
        | succ i => exact h2 i (by simpa using hi1) (by simpa using hi2)
      · cases h
    · cases h

theorem inOrder_zip : ∀ {ps : List (Nat × Operand)} {j : Nat} (f : Operand → Value), inOrder j ps = true → ps.map (fun p => (p.1, f p.2)) = ((ps.map fun p => f p.2).zipIdx j).map fun p => (p.2, p.1) := by
  intro ps
  induction ps with
  | nil => intro j f _; rfl
  | cons p ps ih =>
    intro j f h
    obtain ⟨i, x⟩ := p
    simp only [inOrder, Bool.and_eq_true, beq_iff_eq] at h
    obtain ⟨rfl, h⟩ := h
    simp only [List.map_cons, List.zipIdx_cons, ih f h]

theorem keysV_sub (H : Heap) (v : AV) : ∀ k ∈ keysC (cellsOf v), k ∈ keysV H v := by
  intro k hk
  cases v with
  | agg cs => exact hk
  | own k' lo len => simpa [keysC, keysV, keys1, cellsOf] using hk
  | _ => simp [keysC, cellsOf, keys1] at hk

theorem flatKeys_sub (H : Heap) (vs : List AV) : ∀ k ∈ (vs.flatMap fun v => keysC (cellsOf v)), k ∈ vs.flatMap (keysV H) := by
  intro k hk
  obtain ⟨v, hv, hk⟩ := List.mem_flatMap.1 hk
  exact List.mem_flatMap.2 ⟨v, hv, keysV_sub H v k hk⟩

theorem Frozen.sub {H : Heap} {ks ks' : List Nat} (h : Frozen H ks) (hs : ∀ k ∈ ks', k ∈ ks) : Frozen H ks' := fun k hk => h k (hs k hk)

theorem dataAll_same {H H' : Heap} (h : HS H H') (t : Ty) : ∀ vs : List AV, dataAll H' t vs = dataAll H t vs := by
  intro vs
  induction vs with
  | nil => rfl
  | cons v vs ih => simp only [dataAll, toV_same h, ih]

/-- the frame of a literal's values, behind the freeze -/
theorem frz_vals (h : Rel P X σ a w φ G M) (ks : List Nat) {os : List Opd} {us : List Value} (hv : ∀ {σ' : St} {G' M' : Nat → Prop}, σ'.env = σ.env → Rel P X σ' a w φ G' M' → RAL P φ G' M' w σ'.heap (vals σ'.env os) us) (hs : sureL (vals σ.env os)) :
    ∃ G' M', (∀ b, G b → G' b) ∧ Rel P X ⟨σ.env, frzH σ.heap ks⟩ a w φ G' M' ∧ RAL P φ G' M' w (frzH σ.heap ks) (bareL (vals σ.env os)) us := by
  obtain ⟨G', M', hg, h'⟩ := h.frz ks
  exact ⟨G', M', hg, h', bareL_sound hs (hv (σ' := ⟨σ.env, frzH σ.heap ks⟩) rfl h')⟩

theorem sound_bslice (h : Rel P X σ a w φ G M) {t e : TypeId} {n : Nat} {ps : Array (Nat × Operand)} (ho : o.op = .buildSlice t n ps) (hu : P.underlying t = some (.slice e)) {ty : Ty} (hpl : plain ty = true) (hnr : noRef ty = true)
    (hin : inOrder 0 ps.toList = true) (hsz : ps.size = n) (hc : P.cellsOf e = size ty) (h24 : n * size ty ≤ 16777216) (h0 : 0 < size ty) (hz : hasZero P e = true) {os : List Opd}
    (hos : compArgs P TT N (List.replicate n e) (ps.toList.map (·.2)) = some os) (hs : sureL (vals σ.env os)) {xs : List (den ty)} (hd : dataAll σ.heap ty (bareL (vals σ.env os)) = some xs) (hl : (bareL (vals σ.env os)).length = n)
    (hk : Cont P X σ { frz := (bareL (vals σ.env os)).flatMap (keysV σ.heap) } (.sl ty xs true) a o next) : o.wp P a w next Q := by
  obtain ⟨G', M', hg, h', hr⟩ := frz_vals h ((bareL (vals σ.env os)).flatMap (keysV σ.heap)) (os := os) (us := (ps.toList.map (·.2)).map a.eval) (fun he hR => by
    have := args_sound hR hos
    exact this) hs
  have hd' := hd
  rw [← dataAll_same (HS.frz ((bareL (vals σ.env os)).flatMap (keysV σ.heap)) σ.heap)] at hd'
  obtain ⟨hlen, hdat⟩ := dataAll_sound h'.heap hnr ((frzH_frozen ((bareL (vals σ.env os)).flatMap (keysV σ.heap)) σ.heap).sub (flatKeys_sub σ.heap _)) hr hd'
  have hxn : xs.length = n := by rw [hlen, hr.len, hl]
  generalize hus : (ps.toList.map (·.2)).map a.eval = us at *
  have hun : us.length = n := by rw [← hlen, hxn]
  have hcs : ∀ u ∈ us, u.cells.size = size ty := by
    intro u hu
    obtain ⟨i, hi, rfl⟩ := List.mem_iff_getElem.1 hu
    have := (hdat i (by omega) hi).len
    simpa using this
  obtain ⟨z, hzr, hzc⟩ := zero_run (P := P) (w := w) hz
  let c0 : Array Value := (Array.range (n * size ty)).map ((if n * size ty = 0 then #[] else z.cells)[· % (if n * size ty = 0 then #[] else z.cells).size]!)
  have hps : (ps.map fun (p : Nat × Operand) => (p.1, a.eval p.2)).toList = (us.zipIdx 0).map fun p => (p.2, p.1) := by
    rw [Array.toList_map, inOrder_zip a.eval hin, ← hus]
    simp [List.map_map, Function.comp_def]
  obtain ⟨c', hf, hc'⟩ := fill_order (S := size ty) (c := c0) (ps := (ps.map fun (p : Nat × Operand) => (p.1, a.eval p.2)).toList) hps hcs (by simp [c0, hun])
  have hc'' : c'.toList = us.flatMap fun u => u.cells.toList := by
    rw [hc']
    simp only [Nat.zero_mul, List.take_zero, List.nil_append, Nat.zero_add]
    rw [List.drop_of_length_le (by simp [c0, hun]), List.append_nil]
  obtain ⟨w', hrun, hn⟩ := newB_run (P := P) (w := w) (cells := c') (t := e)
  have hsr : (Go.sizeOf e).run P w = .ok (size ty) w := by rw [← hc]; exact size_run (by omega)
  have hex : (execOp a.eval o).run P w = .ok (.value (.slice (some ⟨w.heap.size, 0, none⟩) n n)) w' := by
    have hng : ¬ (16777216 < n * size ty) := by omega
    simp only [execOp, ho, Instr.buildSlice, Sem.run_bind, underlying, run_program, Result.andThen_ok, hu, Sem.run_pure, hsr]
    rw [if_neg (by simpa using hng)]
    by_cases h00 : n * size ty = 0
    · have hf0 := hf
      simp only [c0, h00, if_true] at hf0
      simp only [h00, if_true, Sem.run_pure, Result.andThen_ok, Sem.run_bind]
      rw [hf0]
      simp only [Sem.run_bind, hrun, Result.andThen_ok, Sem.run_pure]
    · have hf0 := hf
      simp only [c0, h00, if_false] at hf0
      simp only [h00, if_false, Sem.run_bind, hzr, Sem.run_pure, Result.andThen_ok]
      rw [hf0]
      simp only [Sem.run_bind, hrun, Result.andThen_ok, Sem.run_pure]
  unfold Oper.wp
  rw [hex]
  have hR := h'.ro hn
  refine hk w' _ φ _ M' hR ?_
  simp only [RA]
  refine ⟨hpl, h0, ?_, fun _ => ⟨_, by rw [hxn]⟩⟩
  simp only [RT]
  refine ⟨_, n, by rw [hxn], by omega, ?_⟩
  right
  refine ⟨⟨w.heap.size, 0, none⟩, rfl, rfl, .inr rfl, fun i hi => ?_⟩
  have hiu : i < us.length := by omega
  refine ⟨(us[i]).cells.toList, (hdat i hi hiu).len, (hdat i hi hiu).mono hpl (fun b hb => .inl hb) (fun b hb => hn.old b (h'.heap.bnd b hb)), fun j u hj => ?_⟩
  have hjS : j < size ty := by have := (List.getElem?_eq_some_iff.1 hj).1; have h2 := (hdat i hi hiu).len; omega
  rw [← part_flat hcs hiu, List.getElem?_take_of_lt hjS, List.getElem?_drop, ← hc''] at hj
  simp only [World.cell?, hn.new, Option.isSome_none, Bool.false_eq_true, if_false, Nat.zero_add]
  rw [← Array.getElem?_toList]
  exact hj
end
end Go.AM
