import Derived.Test.YtbcbgfkojmligaaASwap
/- Part of an abstract machine for Go code and of its soundness, for any program of the model; no condition. -/
set_option linter.unusedVariables false
set_option linter.unusedSimpArgs false
set_option linter.unusedSimpArgs false
set_option linter.constructorNameAsVariable false
namespace Go.AM

/-- One operation of a region, as it went in the text's order. -/
structure TE where
  o : AOp
  n : Prop
  v : AV
  e : Eff
  /-- keys that it depends on -/
  rd : List Nat
  /-- slots, boxes that its deletions clear -/
  kt : List Nat
  kb : List Nat

def TE.wr (t : TE) : List Nat := t.e.keys ++ t.kb

structure TE.OK (T : Tab) (σ : St) (t : TE) : Prop where
  ev : ev T t.o σ = .ok t.n t.v t.e
  rd : t.rd = rdOf σ t.o t.v t.e
  kt : ∀ i k, k ∈ t.e.del → k ∈ nm (eget σ.env i) → i ∈ t.kt
  kb : ∀ i k, k ∈ t.e.del → k ∈ nmO (hget σ.heap i) → i ∈ t.kb

def TE.step (t : TE) (σ : St) : St := σ.upd t.o.d t.v t.e

/-- x ahead of y, or behind it: it is all one. -/
structure Ind (x y : TE) : Prop where
  d1 : ∀ d, x.o.d = some d → d ∉ y.o.tmps ∧ y.o.d ≠ some d ∧ d ∉ y.kt
  d2 : ∀ d, y.o.d = some d → d ∉ x.o.tmps ∧ d ∉ x.kt
  t1 : ∀ i ∈ x.kt, i ∉ y.o.tmps
  t2 : ∀ i ∈ y.kt, i ∉ x.o.tmps
  w1 : ∀ k ∈ x.wr, k ∉ y.rd ∧ k ∉ y.wr ∧ k ∉ y.e.frz
  w2 : ∀ k ∈ y.wr, k ∉ x.rd ∧ k ∉ x.e.frz

theorem Ind.symm {x y : TE} (h : Ind x y) : Ind y x where
  d1 := fun d hd => ⟨(h.d2 d hd).1, fun e => (h.d1 d e).2.1 hd, (h.d2 d hd).2⟩
  d2 := fun d hd => ⟨(h.d1 d hd).1, (h.d1 d hd).2.2⟩
  t1 := h.t2
  t2 := h.t1
  w1 := fun k hk => ⟨(h.w2 k hk).1, fun hx => (h.w1 k hx).2.1 hk, (h.w2 k hk).2⟩
  w2 := fun k hk => ⟨(h.w1 k hk).1, (h.w1 k hk).2.2⟩

/-- The same slots, the same objects. -/
def Eqv (σ σ' : St) : Prop := (∀ t, eget σ'.env t = eget σ.env t) ∧ ∀ k, hget σ'.heap k = hget σ.heap k
theorem Eqv.refl (σ : St) : Eqv σ σ := ⟨fun _ => rfl, fun _ => rfl⟩
theorem Eqv.trans {a b c : St} (h : Eqv a b) (h' : Eqv b c) : Eqv a c := ⟨fun t => (h'.1 t).trans (h.1 t), fun k => (h'.2 k).trans (h.2 k)⟩
theorem Eqv.symm {a b : St} (h : Eqv a b) : Eqv b a := ⟨fun t => (h.1 t).symm, fun k => (h.2 k).symm⟩

theorem vals_on {E E' : Env} : ∀ {xs : List Opd}, (∀ t ∈ xsTmps xs, eget E' t = eget E t) → vals E' xs = vals E xs := by
  intro xs
  induction xs with
  | nil => intro _; rfl
  | cons x xs ih =>
    intro h
    cases x with
    | t n =>
      simp only [xsTmps, List.mem_cons, forall_eq_or_imp] at h
      simp only [vals, Opd.val, h.1, ih h.2]
    | c v => simp only [vals, Opd.val, ih h]

theorem nmL_bareL : ∀ vs : List AV, nmL (bareL vs) = nmL vs := by
  intro vs
  induction vs with
  | nil => rfl
  | cons v vs ih =>
    have : nm (bare v) = nm v := by cases v <;> rfl
    simp only [bareL, nmL, ih, this]

theorem run1_on {S : Nat → Prop} {T : Tab} {d : Nat} {H H' : Heap} {k : K} {vs : List AV} {n : Prop} {v : AV} {e : Eff} (hr : run1 T d H k vs = .ok n v e) (h : On S H H') (hv : ReadsK S H k vs)
    (hw : ∀ j ∈ e.keys, hget H' j = hget H j) : run1 T d H' k vs = .ok n v e := by
  have hv' : ReadsK S H k (bareL vs) := by simpa only [ReadsK, nmL_bareL] using hv
  have key : (match run T d H k (bareL vs) with | .ok n v e => R.ok (sureL vs ∧ n) v e | .amb n p => .amb (sureL vs ∧ n) p | .no => .no) = .ok n v e →
      (match run T d H' k (bareL vs) with | .ok n v e => R.ok (sureL vs ∧ n) v e | .amb n p => .amb (sureL vs ∧ n) p | .no => .no) = .ok n v e := by
    intro hr
    cases h1 : run T d H k (bareL vs) with
    | no => rw [h1] at hr; cases hr
    | amb n p => rw [h1] at hr; cases hr
    | ok n1 v1 e1 =>
      rw [h1] at hr
      simp only [R.ok.injEq] at hr
      obtain ⟨rfl, rfl, rfl⟩ := hr
      rw [run_on h1 h hv' hw]
  cases k <;> first | exact hr | exact key hr

theorem ev_on {S : Nat → Prop} {T : Tab} {o : AOp} {σ σ' : St} {n : Prop} {v : AV} {e : Eff} (hr : ev T o σ = .ok n v e) (ht : ∀ t ∈ o.tmps, eget σ'.env t = eget σ.env t) (h : On S σ.heap σ'.heap) (hv : ReadsK S σ.heap o.k (vals σ.env o.xs))
    (hw : ∀ j ∈ e.keys, hget σ'.heap j = hget σ.heap j) : ev T o σ' = .ok n v e := by
  have hvals : vals σ'.env o.xs = vals σ.env o.xs := vals_on fun t h' => ht t (by
    unfold AOp.tmps
    split
    · exact List.mem_cons_of_mem _ h'
    · exact h')
  unfold ev at hr ⊢
  rw [hvals]
  cases hg : o.gd with
  | none =>
    rw [hg] at hr
    exact run1_on hr h hv hw
  | some p =>
    obtain ⟨t, want⟩ := p
    rw [hg] at hr
    simp only at hr ⊢
    rw [ht t (by simp [AOp.tmps, hg])]
    cases hact : actOf want (eget σ.env t) with
    | none => rw [hact] at hr; cases hr
    | some act =>
      rw [hact] at hr
      simp only at hr ⊢
      cases h1 : run1 T (o.d.getD 0) σ.heap o.k (vals σ.env o.xs) with
      | no => rw [h1] at hr; cases hr
      | amb n p => rw [h1] at hr; cases hr
      | ok n1 v1 e1 =>
        rw [h1] at hr
        simp only at hr
        cases hq : e1.quiet with
        | false => rw [hq] at hr; cases hr
        | true =>
          rw [hq] at hr
          simp only [R.ok.injEq] at hr
          obtain ⟨rfl, rfl, rfl⟩ := hr
          rw [run1_on h1 h hv hw]
          simp only [hq]

theorem nmK_eq {H H' : Heap} : ∀ {ks : List Nat}, (∀ k ∈ ks, nmO (hget H' k) = nmO (hget H k)) → nmK H' ks = nmK H ks := by
  intro ks
  induction ks with
  | nil => intro _; rfl
  | cons k ks ih => intro h; simp only [nmK, h k (List.mem_cons_self ..), ih fun j hj => h j (List.mem_cons_of_mem _ hj)]

theorem oSame_kill {ks : List Nat} {fz : Bool} {o : Option Obj} (h : ∀ k ∈ ks, k ∉ nmO o) : oSame o ((if fz then o.map frzO else o).map (killsO ks)) := by
  cases o with
  | none => cases fz <;> trivial
  | some o =>
    cases o with
    | box cs =>
      have := killsO_id h
      cases fz <;> simp only [Option.map_some, frzO, if_true, if_false, Bool.false_eq_true, this] <;> exact oSame.refl _
    | row t xs f => cases fz <;> simp only [Option.map_some, frzO, if_true, if_false, Bool.false_eq_true, killsO_row] <;> simp [oSame]

theorem nmO_same {o o' : Option Obj} (h : oSame o o') : nmO o' = nmO o := by
  cases o with
  | none => cases o' with
    | none => rfl
    | some o' => simp [oSame] at h
  | some o => cases o with
    | box x => cases o' with
      | none => simp [oSame] at h
      | some o' => cases o' with
        | box y => simp only [oSame] at h; subst h; rfl
        | row t y f => simp [oSame] at h
    | row t x f => simp only [oSame] at h; obtain ⟨f', rfl⟩ := h; rfl

theorem lastPut_mem {ps : List (Nat × Obj)} {j : Nat} {o : Obj} (h : lastPut ps j = some o) : j ∈ ps.map (·.1) ∧ ∀ k ∈ nmO (some o), k ∈ nmPut ps := by
  induction ps with
  | nil => cases h
  | cons p ps ih =>
    obtain ⟨k, o1⟩ := p
    simp only [lastPut] at h
    split at h
    · rename_i o2 h2
      cases h
      obtain ⟨h3, h4⟩ := ih h2
      exact ⟨List.mem_cons_of_mem _ h3, fun k hk => by simp only [nmPut, List.mem_append]; exact .inr (h4 k hk)⟩
    · split at h
      · rename_i e
        cases h
        exact ⟨by simp [e], fun k hk => by simp only [nmPut, List.mem_append]; exact .inl hk⟩
      · cases h

theorem mem_keys {e : Eff} {k : Nat} : k ∈ e.keys ↔ k ∈ e.put.map (·.1) ∨ k ∈ e.del := by simp [Eff.keys]

/-- An object that the step does not touch. -/
theorem step_same {T : Tab} {σ : St} {x : TE} (hx : x.OK T σ) {k : Nat} (hk : k ∉ x.wr) : oSame (hget σ.heap k) (hget (x.step σ).heap k) := by
  unfold TE.wr at hk
  simp only [List.mem_append, not_or, mem_keys] at hk
  simp only [TE.step, hget_upd, updObj]
  rw [lastPut_none hk.1.1, if_neg hk.1.2]
  have := oSame_kill (ks := x.e.del) (fz := decide (k ∈ x.e.frz)) (o := hget σ.heap k) fun j hj hn => hk.2 (hx.kb k j hj hn)
  simpa using this
theorem step_eq {T : Tab} {σ : St} {x : TE} (hx : x.OK T σ) {k : Nat} (hk : k ∉ x.wr) (hf : k ∉ x.e.frz) : hget (x.step σ).heap k = hget σ.heap k := by
  unfold TE.wr at hk
  simp only [List.mem_append, not_or, mem_keys] at hk
  simp only [TE.step, hget_upd, updObj]
  rw [lastPut_none hk.1.1, if_neg hk.1.2, if_neg hf]
  cases ho : hget σ.heap k with
  | none => rfl
  | some o =>
    simp only [Option.map_some]
    rw [killsO_id fun j hj hn => hk.2 (hx.kb k j hj (by rw [ho]; exact hn))]
theorem step_tmp {T : Tab} {σ : St} {x : TE} (hx : x.OK T σ) {t : Nat} (hd : x.o.d ≠ some t) (hk : t ∉ x.kt) : eget (x.step σ).env t = eget σ.env t := by
  simp only [TE.step, eget_upd]
  rw [if_neg hd, killsV_id fun j hj hn => hk (hx.kt t j hj hn)]

theorem mem_rdB {σ : St} {t : TE} (h : t.rd = rdOf σ t.o t.v t.e) {k : Nat} (hk : k ∈ nmB t.o.k σ.heap (vals σ.env t.o.xs)) : k ∈ t.rd := by
  rw [h]; unfold rdOf; exact List.mem_append_left _ hk
theorem mem_rdV {σ : St} {t : TE} (h : t.rd = rdOf σ t.o t.v t.e) {k : Nat} (hk : k ∈ nm t.v) : k ∈ t.rd := by
  rw [h]; unfold rdOf; exact List.mem_append_right _ (List.mem_append_left _ hk)
theorem mem_rdP {σ : St} {t : TE} (h : t.rd = rdOf σ t.o t.v t.e) {k : Nat} (hk : k ∈ nmPut t.e.put) : k ∈ t.rd := by
  rw [h]; unfold rdOf; exact List.mem_append_right _ (List.mem_append_right _ (List.mem_append_left _ hk))

/-- What holds of y behind x holds of it ahead of x (and the other way): the parts that count stand. -/
theorem OK_of {T : Tab} {σ σ' : St} {y : TE} (hy : y.OK T σ) (ht : ∀ t ∈ y.o.tmps, eget σ'.env t = eget σ.env t) (hd : ∀ d, y.o.d = some d → nm (eget σ'.env d) = nm (eget σ.env d))
    (hs : ∀ k ∈ y.rd, oSame (hget σ.heap k) (hget σ'.heap k)) (hw : ∀ k ∈ y.e.keys, hget σ'.heap k = hget σ.heap k)
    (hkt : ∀ i k, k ∈ y.e.del → k ∈ nm (eget σ'.env i) → i ∈ y.kt) (hkb : ∀ i k, k ∈ y.e.del → k ∈ nmO (hget σ'.heap i) → i ∈ y.kb) : y.OK T σ' := by
  have hR : ReadsK (· ∈ y.rd) σ.heap y.o.k (vals σ.env y.o.xs) := by
    refine ⟨fun k hk => mem_rdB hy.rd (List.mem_append_left _ hk), fun hdp k hk bs hb j hj => mem_rdB hy.rd (List.mem_append_right _ (by rw [hdp]; exact mem_nmK hk hb hj))⟩
  have hvals : vals σ'.env y.o.xs = vals σ.env y.o.xs := vals_on fun t h' => ht t (by
    unfold AOp.tmps
    split
    · exact List.mem_cons_of_mem _ h'
    · exact h')
  refine ⟨ev_on hy.ev ht hs hR hw, ?_, hkt, hkb⟩
  rw [hy.rd]
  unfold rdOf
  rw [hvals]
  have e1 : nmB y.o.k σ'.heap (vals σ.env y.o.xs) = nmB y.o.k σ.heap (vals σ.env y.o.xs) := by
    unfold nmB
    rw [nmK_eq fun k hk => nmO_same (hs k (hR.1 k hk))]
  have e2 : nmK σ'.heap y.e.keys = nmK σ.heap y.e.keys := nmK_eq fun k hk => by rw [hw k hk]
  have e3 : nmD σ'.env y.o.d = nmD σ.env y.o.d := by
    cases hdd : y.o.d with
    | none => rfl
    | some d => exact hd d hdd
  rw [e1, e2, e3]

theorem oSame.symm {a b : Option Obj} (h : oSame a b) : oSame b a := by
  cases a with
  | none => cases b with
    | none => trivial
    | some b => simp [oSame] at h
  | some a => cases a with
    | box x => cases b with
      | none => simp [oSame] at h
      | some b => cases b with
        | box y => simp only [oSame] at h ⊢; exact h.symm
        | row t y f => simp [oSame] at h
    | row t x f => simp only [oSame] at h; obtain ⟨f', rfl⟩ := h; simp [oSame]

theorem nmD_eq {σ : St} {t : TE} (h : t.rd = rdOf σ t.o t.v t.e) {d k : Nat} (hd : t.o.d = some d) (hk : k ∈ nm (eget σ.env d)) : k ∈ t.rd := by
  rw [h]; unfold rdOf
  exact List.mem_append_right _ (List.mem_append_right _ (List.mem_append_right _ (List.mem_append_right _ (by rw [hd]; exact hk))))

theorem wr_keys {t : TE} {k : Nat} (h : k ∈ t.e.keys) : k ∈ t.wr := List.mem_append_left _ h

theorem mem_rdK {σ : St} {t : TE} (h : t.rd = rdOf σ t.o t.v t.e) {i k : Nat} (hi : i ∈ t.e.keys) (hk : k ∈ nmO (hget σ.heap i)) : k ∈ t.rd := by
  rw [h]; unfold rdOf
  refine List.mem_append_right _ (List.mem_append_right _ (List.mem_append_right _ (List.mem_append_left _ ?_)))
  cases ho : hget σ.heap i with
  | none => rw [ho] at hk; simp [nmO] at hk
  | some o => cases o with
    | box cs => rw [ho] at hk; exact mem_nmK hi ho hk
    | row t xs f => rw [ho] at hk; simp [nmO] at hk
theorem nmL_killsL_ne {ks : List Nat} : ∀ {v : List AV} {j : Nat}, j ∉ ks → j ∈ nmL v → j ∈ nmL (killsL ks v) := by
  induction ks with
  | nil => intro v j _ h; exact h
  | cons k ks ih =>
    intro v j hj h
    simp only [List.mem_cons, not_or] at hj
    exact ih hj.2 (nmL_killL_ne k v j hj.1 h)
theorem nmO_kills {ks : List Nat} {fz : Prop} [Decidable fz] {o : Option Obj} {j : Nat} (hj : j ∉ ks) (h : j ∈ nmO o) : j ∈ nmO ((if fz then o.map frzO else o).map (killsO ks)) := by
  cases o with
  | none => simp [nmO] at h
  | some o => cases o with
    | box cs => have : j ∈ nmL (killsL ks cs) := nmL_killsL_ne hj h
                split <;> simpa [frzO, killsO_box, nmO] using this
    | row t xs f => simp [nmO] at h
theorem nmO_kills' {ks : List Nat} {fz : Prop} [Decidable fz] {o : Option Obj} {j : Nat} (h : j ∈ nmO ((if fz then o.map frzO else o).map (killsO ks))) : j ∈ nmO o := by
  cases o with
  | none => split at h <;> simp [nmO] at h
  | some o => cases o with
    | box cs => split at h <;> (simp only [Option.map_some, frzO, killsO_box, nmO] at h; exact nmL_killsL h)
    | row t xs f => split at h <;> simp [frzO, killsO_row, nmO] at h

theorem ahead {T : Tab} {σ : St} {x y : TE} (hx : x.OK T σ) (hy : y.OK T (x.step σ)) (h : Ind x y) : y.OK T σ := by
  refine OK_of hy (fun t ht => ?_) (fun d hd => ?_) (fun k hk => ?_) (fun k hk => ?_) (fun i k hk hn => ?_) (fun i k hk hn => ?_)
  · exact (step_tmp hx (fun e => (h.d1 t e).1 ht) (fun hk => h.t1 t hk ht)).symm
  · rw [step_tmp hx (fun e => (h.d1 d e).2.1 hd) (h.d2 d hd).2]
  · exact (step_same hx fun hw => (h.w1 k hw).1 hk).symm
  · exact (step_eq hx (fun hw => (h.w1 k hw).2.1 (wr_keys hk)) (h.w2 k (wr_keys hk)).2).symm
  · by_cases e : x.o.d = some i
    · exact absurd (nmD_eq hx.rd e hn) (h.w2 k (wr_keys (mem_keys.2 (.inr hk)))).1
    · refine hy.kt i k hk ?_
      simp only [TE.step, eget_upd]
      rw [if_neg e]
      exact nm_killsV_ne (fun hkx => (h.w1 k (wr_keys (mem_keys.2 (.inr hkx)))).2.1 (wr_keys (mem_keys.2 (.inr hk)))) hn
  · by_cases e : i ∈ x.e.keys
    · exact absurd (mem_rdK hx.rd e hn) (h.w2 k (wr_keys (mem_keys.2 (.inr hk)))).1
    · refine hy.kb i k hk ?_
      have hkx : k ∉ x.e.del := fun hkx => (h.w1 k (wr_keys (mem_keys.2 (.inr hkx)))).2.1 (wr_keys (mem_keys.2 (.inr hk)))
      rw [mem_keys, not_or] at e
      simp only [TE.step, hget_upd, updObj]
      rw [lastPut_none e.1, if_neg e.2]
      exact nmO_kills hkx hn

theorem behind {T : Tab} {σ : St} {x y : TE} (hx : x.OK T σ) (hy : y.OK T σ) (h : Ind x y) : x.OK T (y.step σ) := by
  refine OK_of hx (fun t ht => ?_) (fun d hd => ?_) (fun k hk => ?_) (fun k hk => ?_) (fun i k hk hn => ?_) (fun i k hk hn => ?_)
  · exact step_tmp hy (fun e => (h.d2 t e).1 ht) (fun hk => h.t2 t hk ht)
  · rw [step_tmp hy (fun e => (h.d1 d hd).2.1 e) (h.d1 d hd).2.2]
  · exact step_same hy fun hw => (h.w2 k hw).1 hk
  · exact step_eq hy (fun hw => (h.w1 k (wr_keys hk)).2.1 hw) (h.w1 k (wr_keys hk)).2.2
  · simp only [TE.step, eget_upd] at hn
    split at hn
    · exact absurd (mem_rdV hy.rd hn) (h.w1 k (wr_keys (mem_keys.2 (.inr hk)))).1
    · exact hx.kt i k hk (nm_killsV hn)
  · simp only [TE.step, hget_upd, updObj] at hn
    split at hn
    · rename_i o' ho
      exact absurd (mem_rdP hy.rd ((lastPut_mem ho).2 k hn)) (h.w1 k (wr_keys (mem_keys.2 (.inr hk)))).1
    · split at hn
      · exact absurd hn (by simp [nmO])
      · exact hx.kb i k hk (nmO_kills' hn)

theorem swap_eqv {T : Tab} {σ : St} {x y : TE} (hx : x.OK T σ) (hy : y.OK T σ) (h : Ind x y) : Eqv (x.step (y.step σ)) (y.step (x.step σ)) := by
  constructor
  · intro t
    simp only [TE.step, eget_upd]
    by_cases e1 : y.o.d = some t
    · have e2 : x.o.d ≠ some t := fun e2 => (h.d1 t e2).2.1 e1
      rw [if_pos e1, if_neg e2, if_pos e1]
      rw [killsV_id fun k hk hn => (h.w1 k (wr_keys (mem_keys.2 (.inr hk)))).1 (mem_rdV hy.rd hn)]
    · rw [if_neg e1]
      by_cases e2 : x.o.d = some t
      · rw [if_pos e2, if_pos e2]
        rw [killsV_id fun k hk hn => (h.w2 k (wr_keys (mem_keys.2 (.inr hk)))).1 (mem_rdV hx.rd hn)]
      · rw [if_neg e2, if_neg e2, if_neg e1, killsV_comm]
  · intro k
    simp only [TE.step, hget_upd]
    generalize hget σ.heap k = o
    have w1 := h.w1 k
    have w2 := h.w2 k
    unfold updObj
    cases hpx : lastPut x.e.put k with
    | some ox =>
      have hm := lastPut_mem hpx
      have hk : k ∈ x.wr := wr_keys (mem_keys.2 (.inl hm.1))
      have hy1 : k ∉ y.e.put.map (·.1) := fun hh => (w1 hk).2.1 (wr_keys (mem_keys.2 (.inl hh)))
      have hy2 : k ∉ y.e.del := fun hh => (w1 hk).2.1 (wr_keys (mem_keys.2 (.inr hh)))
      simp only
      rw [lastPut_none hy1, if_neg hy2, if_neg (w1 hk).2.2]
      simp only [Option.map_some]
      rw [killsO_id fun j hj hn => (h.w2 j (wr_keys (mem_keys.2 (.inr hj)))).1 (mem_rdP hx.rd (hm.2 j hn))]
    | none =>
      cases hpy : lastPut y.e.put k with
      | some oy =>
        have hm := lastPut_mem hpy
        have hk : k ∈ y.wr := wr_keys (mem_keys.2 (.inl hm.1))
        have hx2 : k ∉ x.e.del := fun hh => (w1 (wr_keys (mem_keys.2 (.inr hh)))).2.1 hk
        simp only
        rw [if_neg hx2, if_neg (w2 hk).2]
        simp only [Option.map_some]
        rw [killsO_id fun j hj hn => (h.w1 j (wr_keys (mem_keys.2 (.inr hj)))).1 (mem_rdP hy.rd (hm.2 j hn))]
      | none =>
        simp only
        by_cases hx2 : k ∈ x.e.del
        · rw [if_pos hx2, if_pos hx2]
          split <;> simp
        · rw [if_neg hx2, if_neg hx2]
          by_cases hy2 : k ∈ y.e.del
          · rw [if_pos hy2, if_pos hy2]; split <;> simp
          · rw [if_neg hy2, if_neg hy2]
            cases o with
            | none => split <;> split <;> rfl
            | some o =>
              have fr : ∀ ks, frzO (killsO ks o) = killsO ks (frzO o) := fun ks => frzO_kills
              have ff : frzO (frzO o) = frzO o := by cases o <;> rfl
              by_cases fx : k ∈ x.e.frz <;> by_cases fy : k ∈ y.e.frz <;> simp only [fx, fy, if_true, if_false, Option.map_some, frzO_kills, ff, killsO_comm (js := x.e.del) (ks := y.e.del)]
end Go.AM
