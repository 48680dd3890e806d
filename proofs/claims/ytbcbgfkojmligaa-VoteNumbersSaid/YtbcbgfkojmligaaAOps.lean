import Derived.Test.YtbcbgfkojmligaaAHolds
import Derived.Test.YtbcbgfkojmligaaAComp
import Derived.WalkKit
/- Part of an abstract machine for Go code and of its soundness, for any program of the model; no condition. -/
set_option linter.unusedVariables false
set_option linter.unusedSimpArgs false
namespace Go.AM
open Go.RowKit
section
variable {P : Program} {TT : TyTab} {N : Nat} {rowAt : List Nat} {X : Ctx} {σ : St} {a : Act} {w : World} {φ : Nat → Loc} {G M : Nat → Prop}

/-- What is to be shown of an operation's end. -/
def Cont (P : Program) (X : Ctx) (σ : St) (e : Eff) (v : AV) (a : Act) (o : Oper) (next : Act → World → Prop) : Prop :=
  ∀ w' u φ' G' M', Rel P X (σ.eff e) a w' φ' G' M' → RA P φ' G' M' w' (σ.eff e).heap v u → next (a.put o.dst u) w'

theorem info_of_underlying {t : TypeId} {d : TypeDesc} (h : P.underlying t = some d) : ∃ i, P.info? t = some i := by
  unfold Program.underlying at h
  cases hi : P.info? t with
  | none => simp [hi] at h
  | some i => exact ⟨i, rfl⟩
theorem info_of_cells {t : TypeId} (h : 0 < P.cellsOf t) : ∃ i, P.info? t = some i ∧ i.size = P.cellsOf t := by
  unfold Program.cellsOf at *
  cases hi : P.info? t with
  | none => simp [hi] at h
  | some i => exact ⟨i, rfl, by simp⟩

theorem opd_sound (h : Rel P X σ a w φ G M) {t : TypeId} {x : Operand} {y : Opd} (hc : compOpd P TT N t x = some y) : RA P φ G M w σ.heap (y.val σ.env) (a.eval x) := by
  unfold compOpd at hc
  split at hc
  · split at hc
    · cases hc; exact h.env _
    · cases hc
  · cases hc; simp only [Opd.val, RA, Act.eval]
  · cases hc; simp only [Opd.val, RA, Act.eval]
  · cases hc; simp only [Opd.val, RA, Act.eval]
  · split at hc
    · split at hc
      · split at hc
        · rename_i hp
          cases hc
          simp only [Bool.and_eq_true, decide_eq_true_eq] at hp
          simp only [Opd.val, RA, Act.eval]
          exact ⟨hp.1, hp.2, by simp only [RT]; exact ⟨none, 0, rfl, Nat.le_refl _, .inl trivial⟩, fun _ => ⟨none, rfl⟩⟩
        · cases hc
      · cases hc
    · cases hc
  · cases hc; simp only [Opd.val, RA]
  · cases hc; simp only [Opd.val, RA, Act.eval]; exact ⟨#[], rfl, by simp only [RAL]⟩
  · cases hc

theorem args_sound (h : Rel P X σ a w φ G M) : ∀ {ts : List TypeId} {xs : List Operand} {ys : List Opd}, compArgs P TT N ts xs = some ys → RAL P φ G M w σ.heap (vals σ.env ys) (xs.map a.eval) := by
  intro ts xs
  induction xs generalizing ts with
  | nil =>
    intro ys hc
    have e : compArgs P TT N ts [] = some [] := by cases ts <;> rfl
    rw [e] at hc
    cases hc
    simp only [vals, RAL, List.map_nil]
  | cons x xs ih =>
    intro ys hc
    have : ∃ t ts' y ys', compOpd P TT N t x = some y ∧ compArgs P TT N ts' xs = some ys' ∧ ys = y :: ys' := by
      cases ts with
      | nil =>
        simp only [compArgs] at hc
        split at hc
        · rename_i y hy
          split at hc
          · rename_i ys' hys; cases hc; exact ⟨_, _, _, _, hy, hys, rfl⟩
          · cases hc
        · cases hc
      | cons t ts =>
        simp only [compArgs] at hc
        split at hc
        · rename_i y hy
          split at hc
          · rename_i ys' hys; cases hc; exact ⟨_, _, _, _, hy, hys, rfl⟩
          · cases hc
        · cases hc
    obtain ⟨t, ts', y, ys', h1, h2, rfl⟩ := this
    simp only [vals, List.map_cons, RAL]
    exact ⟨_, _, rfl, opd_sound h h1, ih h2⟩

theorem bare_sound {H : Heap} {v : AV} {u : Value} (hs : sure v) (h : RA P φ G M w H v u) : RA P φ G M w H (bare v) u := by
  cases v <;> first | exact h | (simp only [sure] at hs; simp only [RA] at h; exact h.1 hs)
theorem bareL_sound {H : Heap} : ∀ {vs : List AV} {us : List Value}, sureL vs → RAL P φ G M w H vs us → RAL P φ G M w H (bareL vs) us := by
  intro vs
  induction vs with
  | nil => intro us _ h; exact h
  | cons v vs ih =>
    intro us hs h
    simp only [RAL] at h
    obtain ⟨u, us', rfl, h1, h2⟩ := h
    simp only [bareL, RAL]
    exact ⟨u, us', rfl, bare_sound hs.1 h1, ih hs.2 h2⟩

theorem eff_nil (σ : St) : σ.eff {} = σ := rfl

/-- An operation that only computes. -/
theorem wp_value {o : Oper} {v : AV} {u : Value} {next : Act → World → Prop} {Q : Exit → Act → World → Prop} (h : Rel P X σ a w φ G M)
    (hr : (execOp a.eval o).run P w = .ok (.value u) w) (hv : RA P φ G M w σ.heap v u) (hk : Cont P X σ {} v a o next) : o.wp P a w next Q := by
  unfold Oper.wp
  rw [hr]
  exact hk w u φ G M h hv

theorem one_cells {H : Heap} {v : AV} {u : Value} (h : RA P φ G M w H v u) (ho : (cellsOf v).all AV.one = true) : RAL P φ G M w H (cellsOf v) u.cells.toList ∧ ∀ x ∈ u.cells.toList, x.oneCell' = true := by
  have one : ∀ (v : AV) (u : Value), AV.one v = true → RA P φ G M w H v u → u.oneCell' = true ∧ u.cells = #[u] := by
    intro v u hv h
    cases v with
    | int k n => simp only [RA] at h; subst h; exact ⟨rfl, rfl⟩
    | bool n => simp only [RA] at h; subst h; exact ⟨rfl, rfl⟩
    | str n => simp only [RA] at h; subst h; exact ⟨rfl, rfl⟩
    | sl t xs f =>
      simp only [RA, RT] at h
      obtain ⟨_, _, ⟨A, c, he, _⟩, _⟩ := h
      cases he
      exact ⟨rfl, rfl⟩
    | own k lo len =>
      simp only [RA] at h
      split at h
      · obtain ⟨_, A, rfl, _⟩ := h; exact ⟨rfl, rfl⟩
      · exact h.elim
    | ptr k off => simp only [RA] at h; obtain ⟨rfl, _⟩ := h; exact ⟨rfl, rfl⟩
    | rptr k i off =>
      simp only [RA] at h
      split at h
      · obtain ⟨_, rfl⟩ := h; exact ⟨rfl, rfl⟩
      · exact h.elim
    | el t x off => simp only [RA] at h; obtain ⟨_, b, o, rfl, _⟩ := h; exact ⟨rfl, rfl⟩
    | clo f caps => simp only [RA] at h; obtain ⟨us, rfl, _⟩ := h; exact ⟨rfl, rfl⟩
    | fv x r p => simp only [RA] at h; obtain ⟨f, caps, wd, rfl, _⟩ := h; exact ⟨rfl, rfl⟩
    | undef => simp [AV.one] at hv
    | agg cs => simp [AV.one] at hv
    | tup cs => simp [AV.one] at hv
    | g b v => simp [AV.one] at hv
  have list : ∀ (cs : List AV) (us : List Value), cs.all AV.one = true → RAL P φ G M w H cs us → ∀ x ∈ us, x.oneCell' = true := by
    intro cs
    induction cs with
    | nil => intro us _ h; simp only [RAL] at h; subst h; simp
    | cons c cs ih =>
      intro us ha h
      simp only [List.all_cons, Bool.and_eq_true] at ha
      simp only [RAL] at h
      obtain ⟨u, us', rfl, h1, h2⟩ := h
      intro x hx
      rcases List.mem_cons.1 hx with rfl | hx
      · exact (one c x ha.1 h1).1
      · exact ih us' ha.2 h2 x hx
  cases v with
  | agg cs =>
    simp only [RA] at h
    obtain ⟨us, rfl, h⟩ := h
    exact ⟨h, list cs _ ho h⟩
  | _ =>
    simp only [cellsOf, List.all_cons, List.all_nil, Bool.and_true] at ho
    obtain ⟨h1, h2⟩ := one _ _ ho h
    rw [h2]
    refine ⟨?_, by simpa using h1⟩
    simp only [cellsOf, RAL]
    exact ⟨_, _, rfl, h, rfl⟩

/-! ### reading -/
theorem cut_sound {H : Heap} : ∀ {cs : List AV} {us : List Value} {off n : Nat} {r : List AV}, RAL P φ G M w H cs us → cut cs off n = some r → RAL P φ G M w H r ((us.drop off).take n) ∧ off + n ≤ us.length := by
  intro cs
  induction cs with
  | nil =>
    intro us off n r h hc
    simp only [RAL] at h
    subst h
    cases off with
    | zero => cases n with
      | zero => simp only [cut] at hc; cases hc; exact ⟨by simp [RAL], by simp⟩
      | succ n => simp [cut] at hc
    | succ off => cases n <;> simp [cut] at hc
  | cons c cs ih =>
    intro us off n r h hc
    simp only [RAL] at h
    obtain ⟨u, us', rfl, h1, h2⟩ := h
    cases off with
    | zero => cases n with
      | zero => simp only [cut] at hc; cases hc; exact ⟨by simp [RAL], by simp⟩
      | succ n =>
        simp only [cut] at hc
        split at hc
        · rename_i r' hr
          cases hc
          obtain ⟨h3, h4⟩ := ih h2 hr
          refine ⟨?_, by simp at h4 ⊢; omega⟩
          simp only [List.drop_zero, List.take_succ_cons, RAL] at h3 ⊢
          exact ⟨_, _, rfl, h1, h3⟩
        · cases hc
    | succ off =>
      have hc' : cut cs off n = some r := by cases n <;> simpa [cut] using hc
      obtain ⟨h3, h4⟩ := ih h2 hc'
      exact ⟨by simpa using h3, by simp; omega⟩

theorem loadCells_at {b o : Nat} {us : List Value} (h : ∀ j u, us[j]? = some u → w.cell? ⟨b, o + j, none⟩ = some u) : (loadCells ⟨b, o, none⟩ us.length).run P w = .ok us.toArray w := by
  refine run_loadCells_list w _ us fun j v hv => ?_
  have : (⟨b, o, none⟩ : Addr).add j = ⟨b, o + j, none⟩ := by unfold Addr.add; split <;> simp_all
  rw [this]
  exact h j v hv

/-- A variable is read: its cells are known. -/
theorem load_sound {o : Oper} {t : TypeId} {x : Operand} {H : Heap} (ho : o.op = .load t x) {b off n : Nat} {us : List Value} {r : List AV} {v : AV} {agg : Bool}
    (hx : a.eval x = .pointer (some ⟨b, off, none⟩)) (ha : (isAggB P t = true ∧ agg = true ∧ n = P.cellsOf t) ∨ (isAggB P t = false ∧ agg = false ∧ n = 1 ∧ (P.underlying t).isSome))
    (hl : RAL P φ G M w H r us) (hn : us.length = n) (hc : ∀ j u, us[j]? = some u → w.cell? ⟨b, off + j, none⟩ = some u) (hv : asV agg r = some v) :
    ∃ u, (execOp a.eval o).run P w = .ok (.value u) w ∧ RA P φ G M w H v u := by
  rcases ha with ⟨h1, rfl, rfl⟩ | ⟨h1, rfl, rfl, h2⟩
  · simp only [asV] at hv
    cases hv
    refine ⟨.agg us.toArray, ?_, by simp only [RA]; exact ⟨us.toArray, rfl, by simpa using hl⟩⟩
    have hL := loadCells_at (P := P) hc
    rw [hn] at hL
    unfold isAggB at h1
    have : ∃ i, P.info? t = some i := by
      split at h1
      · rename_i hu; exact info_of_underlying hu
      · rename_i hu; exact info_of_underlying hu
      · cases h1
    obtain ⟨i, hi⟩ := this
    have hs : i.size = P.cellsOf t := by simp [Program.cellsOf, hi]
    have hag : (isAgg t).run P w = .ok true w := by
      unfold isAgg
      split at h1
      · rename_i hu; simp [underlying, hu]
      · rename_i hu; simp [underlying, hu]
      · cases h1
    simp only [execOp, ho, Instr.loadAt, Instr.sureAddr, loadVar, hx, Sem.run_bind, Sem.run_pure, Result.andThen_ok, hag, if_true, Go.sizeOf, typeInfo, run_program, hi, hs, hL]
  · cases r with
    | nil => simp [asV] at hv
    | cons c r => cases r with
      | cons c' r => simp [asV] at hv
      | nil =>
        simp only [asV] at hv
        cases hv
        simp only [RAL] at hl
        obtain ⟨u, us', rfl, hu, rfl⟩ := hl
        refine ⟨u, ?_, hu⟩
        have hcell := hc 0 u rfl
        simp only [Nat.add_zero] at hcell
        have hag : (isAgg t).run P w = .ok false w := by
          unfold isAgg
          unfold isAggB at h1
          cases hu : P.underlying t with
          | none => simp [hu] at h2
          | some d => simp only [hu] at h1; cases d <;> simp_all [underlying]
        simp only [execOp, ho, Instr.loadAt, Instr.sureAddr, loadVar, hx, Sem.run_bind, Sem.run_pure, Result.andThen_ok, hag, Bool.false_eq_true, if_false, run_load, hcell]
end
end Go.AM
