import Derived.Test.YtbcbgfkojmligaaALoc
/- Part of an abstract machine for Go code and of its soundness, for any program of the model; no condition. -/
set_option linter.unusedVariables false
set_option linter.unusedSimpArgs false
set_option linter.unusedSimpArgs false
set_option linter.constructorNameAsVariable false
namespace Go.AM

theorem keysV_on {S : Nat → Prop} {H H' : Heap} (h : On S H H') (v : AV) (hv : Reads S H [v]) : keysV H' v = keysV H v := by
  have one : ∀ k off, k ∈ nmL [v] → keysV H' (.ptr k off) = keysV H (.ptr k off) := by
    intro k off hk
    simp only [keysV]
    cases h1 : hget H k with
    | none => cases h2 : hget H' k with
      | none => rfl
      | some o => have := h k (hv.1 k hk); rw [h1, h2] at this; simp [oSame] at this
    | some o => cases o with
      | box cs => rw [(box_on h (hv.1 k hk)).2 h1]
      | row t xs f => obtain ⟨f', e⟩ := row_on h (hv.1 k hk) h1; rw [e]
  cases v with
  | ptr k off => exact one k off (by simp [nmL, nm])
  | clo f caps =>
    simp only [keysV]
    have hc : ∀ c ∈ caps, ∀ k ∈ nm c, k ∈ nmL [AV.clo f caps] := fun c hc k hk => by simp only [nmL, nm, List.append_nil]; exact mem_nmL hc hk
    have : ∀ l : List AV, (∀ c ∈ l, ∀ k ∈ nm c, k ∈ nmL [AV.clo f caps]) → (l.flatMap fun
        | .own k _ _ => [k]
        | .ptr k _ => match hget H' k with
          | some (.box cs) => keysC cs
          | _ => []
        | _ => []) = l.flatMap fun
        | .own k _ _ => [k]
        | .ptr k _ => match hget H k with
          | some (.box cs) => keysC cs
          | _ => []
        | _ => [] := by
      intro l
      induction l with
      | nil => intro _; rfl
      | cons c cs ih =>
        intro hl
        simp only [List.flatMap_cons]
        rw [ih fun c hc => hl c (List.mem_cons_of_mem _ hc)]
        congr 1
        cases c with
        | ptr k off => exact one k off (hl _ (List.mem_cons_self ..) k (by simp [nm]))
        | _ => rfl
    exact this caps hc
  | _ => rfl

theorem flatKeys_on {S : Nat → Prop} {H H' : Heap} (h : On S H H') : ∀ vs : List AV, Reads S H vs → vs.flatMap (keysV H') = vs.flatMap (keysV H) := by
  intro vs
  induction vs with
  | nil => intro _; rfl
  | cons v vs ih => intro hv; simp only [List.flatMap_cons, keysV_on h v hv.cons.1, ih hv.cons.2]

theorem hasAny_on {H H' : Heap} : ∀ {ps : List (Nat × Obj)}, (∀ j ∈ ps.map (·.1), hget H' j = hget H j) → hasAny H' ps = hasAny H ps := by
  intro ps
  induction ps with
  | nil => intro _; rfl
  | cons p ps ih =>
    intro h
    obtain ⟨k, o⟩ := p
    simp only [hasAny]
    rw [h k (by simp), ih fun j hj => h j (by simp only [List.map_cons, List.mem_cons]; exact .inr hj)]

theorem callR_on {S : Nat → Prop} {d : Nat} {H H' : Heap} {vs : List AV} {pre n : Prop} {a r : Ty} {y : den r} {v : AV} {e : Eff} (hr : callR d H vs pre a r y = .ok n v e) (h : On S H H') (hv : Reads S H vs)
    (hw : ∀ j ∈ e.put.map (·.1) ++ e.del, hget H' j = hget H j) : callR d H' vs pre a r y = .ok n v e := by
  unfold callR at hr ⊢
  split at hr
  · cases hr
  · rename_i hc
    cases hr
    rw [hasAny_on (H := H) (H' := H') fun j hj => hw j (List.mem_append_left _ hj), if_neg hc, flatKeys_on h vs hv]

theorem callF_on {S : Nat → Prop} {T : Tab} {d f : Nat} {H H' : Heap} {vs : List AV} {n : Prop} {v : AV} {e : Eff} (hr : callF T d f H vs = .ok n v e) (h : On S H H') (hv : Reads S H vs)
    (hw : ∀ j ∈ e.put.map (·.1) ++ e.del, hget H' j = hget H j) : callF T d f H' vs = .ok n v e := by
  unfold callF at hr ⊢
  split at hr
  · rename_i fn hfn
    split at hr
    · rename_i x hx
      rw [toArgs_on h _ _ hv, hx]
      exact callR_on hr h hv hw
    · cases hr
  · cases hr

theorem Reads.nil {S : Nat → Prop} {H : Heap} : Reads S H [] := by simp [Reads, nmL]
theorem Reads.mem {S : Nat → Prop} {H : Heap} {v : AV} {vs : List AV} (h : Reads S H vs) (hv : v ∈ vs) : Reads S H [v] := by
  refine ⟨fun k hk => h.1 k (mem_nmL hv (by simpa [nmL] using hk)), fun k hk => h.2 k (mem_nmL hv (by simpa [nmL] using hk))⟩
theorem Reads.app {S : Nat → Prop} {H : Heap} {vs us : List AV} (h : Reads S H vs) (h' : Reads S H us) : Reads S H (vs ++ us) := by
  obtain ⟨h1, h2⟩ := h
  obtain ⟨h3, h4⟩ := h'
  constructor
  · intro k hk; rw [nmL_app, List.mem_append] at hk; exact hk.elim (h1 k) (h3 k)
  · intro k hk; rw [nmL_app, List.mem_append] at hk; exact hk.elim (h2 k) (h4 k)

theorem keysC_nm {cs : List AV} {k : Nat} (h : k ∈ keysC cs) : k ∈ nmL cs := by
  unfold keysC at h
  simp only [List.mem_flatMap] at h
  obtain ⟨c, hc, hk⟩ := h
  refine mem_nmL hc ?_
  cases c <;> simp [keys1] at hk
  subst hk; simp [nm]

/-- only own slices are looked through where no pointer is asked for -/
theorem toCells_keys {S : Nat → Prop} {H H' : Heap} (h : On S H H') {t : Ty} : ∀ {cs : List AV}, noRef t = true → (∀ k ∈ keysC cs, S k) → toCells H' t cs = toCells H t cs := by
  induction t with
  | list t _ => intro cs _ h1; cases cs with
    | nil => rfl
    | cons c cs =>
      have : slOf H' t c = slOf H t c := by
        cases c with
        | own k lo n => exact slOf_on h t _ fun j hj => h1 j (by rw [keysC_cons]; simp only [nm] at hj; exact List.mem_append_left _ (by simpa [keys1] using hj))
        | _ => rfl
      simp only [toCells, this]
  | pair a b iha ihb =>
    intro cs hn h1
    simp only [noRef, Bool.and_eq_true] at hn
    simp only [toCells, iha hn.1 h1]
    cases hc : toCells H a cs with
    | none => rfl
    | some p =>
      obtain ⟨x, cs1⟩ := p
      obtain ⟨q, rfl⟩ := toCells_tail hc
      simp only
      rw [ihb hn.2 fun k hk => h1 k (by unfold keysC at hk ⊢; rw [List.flatMap_append]; exact List.mem_append_right _ hk)]
  | ref t _ => intro cs hn; simp [noRef] at hn
  | unit => intro cs _ _; rfl
  | _ => intro cs _ _; cases cs with
    | nil => rfl
    | cons c cs => cases c <;> rfl

theorem run_on {S : Nat → Prop} {T : Tab} {d : Nat} {H H' : Heap} {k : K} {vs : List AV} {n : Prop} {v : AV} {e : Eff} (hr : run T d H k vs = .ok n v e) (h : On S H H') (hv : ReadsK S H k vs)
    (hw : ∀ j ∈ e.put.map (·.1) ++ e.del, hget H' j = hget H j) : run T d H' k vs = .ok n v e := by
  unfold run at hr
  split at hr
  · exact hr
  · -- box
    split at hr
    · rename_i hc
      cases hr
      simp only [run]
      rw [hw d (by simp), if_pos hc]
    · cases hr
  · split at hr
    · rename_i hc
      cases hr
      simp only [run]
      rw [hw d (by simp), if_pos hc]
    · cases hr
  · split at hr
    · rename_i hc
      cases hr
      simp only [run]
      rw [hw d (by simp), if_pos hc]
    · cases hr
  · -- load
    rename_i p
    simp only [run]
    cases p with
    | ptr k off =>
      simp only [loadR] at hr ⊢
      split at hr
      · rename_i cs hk
        rw [(box_on h (hv.1 k (by simp [nmL, nm]))).2 hk]
        exact hr
      · cases hr
    | rptr k i off =>
      simp only [loadR] at hr ⊢
      split at hr
      · rename_i t xs f hk
        obtain ⟨f', e⟩ := row_on h (hv.1 k (by simp [nmL, nm])) hk
        rw [e]
        exact hr
      · cases hr
    | el t x off => simp only [loadR] at hr ⊢; exact hr
    | _ => simp [loadR] at hr
  · -- store
    rename_i p x
    simp only [run]
    cases p with
    | ptr k off =>
      simp only [storeR] at hr ⊢
      split at hr
      · rename_i hc
        rw [if_pos hc]
        split at hr
        · rename_i cs hk
          split at hr
          · rename_i cs' hl
            cases hr
            rw [hw k (by simp), hk]
            simp only [hl]
          · cases hr
        · cases hr
      · cases hr
    | rptr k i off =>
      simp only [storeR] at hr ⊢
      split at hr
      · rename_i hc
        rw [if_pos hc]
        split at hr
        · rename_i t xs hk
          split at hr
          · rename_i hnr
            split at hr
            · rename_i cs' hl
              split at hr
              · rename_i y hy
                split at hr
                · cases hr
                · rename_i hkk
                  cases hr
                  rw [hw k (by simp), hk]
                  have : toCells H' t cs' = toCells H t cs' := toCells_keys h hnr fun j hj => by
                    rcases keys_lay hl j hj with hj | hj
                    · have := keys1_cells j hj; simp [keysC] at this
                    · refine hv.1 j ?_
                      have := keysC_nm hj
                      rw [nm_cellsOf] at this
                      simp [nmL, this]
                  simp only [hnr, hl, this, hy, if_true]
                  rw [if_neg hkk]
              · cases hr
            · cases hr
          · cases hr
        · cases hr
      · cases hr
    | _ => simp [storeR] at hr
  · simp only [run]; exact hr
  · -- idx
    rename_i x i
    simp only [run]
    cases x with
    | sl t xs f => cases i <;> simp only [idxR] at hr ⊢ <;> exact hr
    | own k lo len =>
      cases i with
      | int kk i =>
        simp only [idxR] at hr ⊢
        split at hr
        · rename_i t xs f hk
          obtain ⟨f', e⟩ := row_on h (hv.1 k (by simp [nmL, nm])) hk
          rw [e]
          exact hr
        · cases hr
      | _ => simp [idxR] at hr
    | _ => cases i <;> simp [idxR] at hr
  · simp only [run]; exact hr
  · -- aidx of a row
    rename_i S' n' k kk i
    simp only [run]
    split at hr
    · rename_i t xs f hk
      obtain ⟨f', e⟩ := row_on h (hv.1 k (by simp [nmL, nm])) hk
      rw [e]
      exact hr
    · cases hr
  · simp only [run]; exact hr
  · simp only [run]; exact hr
  · simp only [run]; exact hr
  · simp only [run]; exact hr
  · simp only [run]; exact hr
  · simp only [run]; exact hr
  · simp only [run]; exact hr
  · -- bslice
    split at hr
    · rename_i hl
      split at hr
      · rename_i xs hd
        cases hr
        simp only [run]
        have hv : Reads S H vs := ⟨hv.1, hv.2 rfl⟩
        rw [if_pos hl, dataAll_on h _ _ hv, hd]
        simp only [flatKeys_on h vs hv]
      · cases hr
    · cases hr
  · -- mks
    split at hr
    · rename_i hc
      cases hr
      simp only [run]
      rw [hw d (by simp), if_pos hc]
    · cases hr
  · -- slc
    rename_i S' lo hi mx x us
    simp only [run]
    cases x with
    | sl t xs f => simp only [slcR] at hr ⊢; exact hr
    | own k lo0 len =>
      simp only [slcR] at hr ⊢
      split at hr
      · rename_i t xs f hk
        obtain ⟨f', e⟩ := row_on h (hv.1 k (by simp [nmL, nm])) hk
        rw [e]
        exact hr
      · cases hr
    | _ => simp [slcR] at hr
  · simp only [run]; exact hr
  · simp only [run]; exact hr
  · simp only [run]; exact hr
  · simp only [run]; exact hr
  · -- append
    rename_i S' b s x
    simp only [run]
    have hx : ∀ t, slOf H' t x = slOf H t x := fun t => slOf_on h t x fun j hj => hv.1 j (by simp [nmL, hj])
    cases s with
    | sl t xs f =>
      cases f with
      | false => simp [appR] at hr
      | true =>
        simp only [appR] at hr ⊢
        split at hr
        · rename_i hc
          split at hr
          · rename_i ys hy
            cases hr
            rw [hw d (by simp), if_pos hc, hx, hy]
          · cases hr
        · cases hr
    | own k lo len =>
      simp only [appR] at hr ⊢
      split at hr
      · rename_i t xs hk
        split at hr
        · rename_i hc
          split at hr
          · rename_i ys hy
            cases hr
            rw [hw k (by simp), hk]
            simp only
            rw [hw d (by simp), if_pos hc, hx, hy]
          · cases hr
        · cases hr
      · cases hr
    | _ => simp [appR] at hr
  · simp only [run]; exact hr
  · simp only [run]; exact hr
  · simp only [run]; exact hr
  · simp only [run]; exact callF_on hr h ⟨hv.1, hv.2 rfl⟩ hw
  · -- a closure
    rename_i f caps us
    have hv : Reads S H (.clo f caps :: us) := ⟨hv.1, hv.2 rfl⟩
    simp only [run]
    refine callF_on hr h ?_ hw
    exact hv.cons.2.app (by simpa [Reads, nmL, nm] using hv.cons.1)
  · -- a function value
    rename_i a r p us
    have hv : Reads S H (.fv a r p :: us) := ⟨hv.1, hv.2 rfl⟩
    simp only [run]
    split at hr
    · rename_i hok
      split at hr
      · rename_i x hx
        rw [if_pos hok, toArgs_on h _ _ hv.cons.2, hx]
        exact callR_on hr h hv.cons.2 hw
      · cases hr
    · cases hr
  · simp only [run]; exact hr
  · simp only [run]; exact hr
  · simp only [run]; exact hr
  · simp only [run]; exact hr
  · cases hr
end Go.AM
