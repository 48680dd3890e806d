import Derived.Test.YtbcbgfkojmligaaACode
/- Part of an abstract machine for Go code and of its soundness, for any program of the model; no condition. -/
set_option linter.unusedVariables false
set_option linter.unusedSimpArgs false
set_option linter.unusedSimpArgs false
set_option linter.constructorNameAsVariable false
namespace Go.AM

theorem mem_nmL {v : AV} {vs : List AV} {k : Nat} (hv : v ∈ vs) (hk : k ∈ nm v) : k ∈ nmL vs := by
  induction vs with
  | nil => cases hv
  | cons u us ih =>
    simp only [nmL, List.mem_append]
    rcases List.mem_cons.1 hv with rfl | hv
    · exact .inl hk
    · exact .inr (ih hv)
theorem nmL_mem {vs : List AV} {k : Nat} (h : k ∈ nmL vs) : ∃ v ∈ vs, k ∈ nm v := by
  induction vs with
  | nil => cases h
  | cons u us ih =>
    simp only [nmL, List.mem_append] at h
    rcases h with h | h
    · exact ⟨u, List.mem_cons_self .., h⟩
    · obtain ⟨v, h1, h2⟩ := ih h; exact ⟨v, List.mem_cons_of_mem _ h1, h2⟩
theorem nmL_app {a b : List AV} : nmL (a ++ b) = nmL a ++ nmL b := by
  induction a with
  | nil => rfl
  | cons v vs ih => simp only [List.cons_append, nmL, ih, List.append_assoc]
theorem mem_nmK {H : Heap} {ks : List Nat} {k : Nat} {cs : List AV} {j : Nat} (hk : k ∈ ks) (hb : hget H k = some (.box cs)) (hj : j ∈ nmL cs) : j ∈ nmK H ks := by
  induction ks with
  | nil => cases hk
  | cons i is ih =>
    simp only [nmK, List.mem_append]
    rcases List.mem_cons.1 hk with rfl | hk
    · exact .inl (by rw [hb]; exact hj)
    · exact .inr (ih hk)

/-- Two heaps agree on what is asked. -/
def On (S : Nat → Prop) (H H' : Heap) : Prop := ∀ k, S k → oSame (hget H k) (hget H' k)

theorem slOf_on {S : Nat → Prop} {H H' : Heap} (h : On S H H') (t : Ty) (v : AV) (hv : ∀ k ∈ nm v, S k) : slOf H' t v = slOf H t v := by
  cases v with
  | own k lo len =>
    have := h k (hv k (List.mem_singleton.2 rfl))
    simp only [slOf]
    cases hk : hget H k with
    | none => rw [hk] at this; cases hk' : hget H' k with
      | none => rfl
      | some o => simp [hk', oSame] at this
    | some o => cases o with
      | box cs => rw [hk] at this; cases hk' : hget H' k with
        | none => simp [hk', oSame] at this
        | some o => cases o with
          | box c => rfl
          | row t' xs f => simp [hk', oSame] at this
      | row t' xs f => rw [hk] at this; simp only [oSame] at this; obtain ⟨f', e⟩ := this; rw [e]
  | _ => rfl

theorem toCells_tail {H : Heap} {t : Ty} : ∀ {cs : List AV} {x : den t} {r : List AV}, toCells H t cs = some (x, r) → ∃ p, cs = p ++ r := by
  induction t with
  | unit => intro cs x r h; simp only [toCells] at h; cases h; exact ⟨[], rfl⟩
  | pair a b iha ihb =>
    intro cs x r h
    simp only [toCells] at h
    split at h
    · rename_i x1 cs1 h1
      split at h
      · rename_i x2 cs2 h2
        cases h
        obtain ⟨p1, rfl⟩ := iha h1
        obtain ⟨p2, rfl⟩ := ihb h2
        exact ⟨p1 ++ p2, by simp⟩
      · cases h
    · cases h
  | int k => intro cs x r h; cases cs with
    | nil => simp [toCells] at h
    | cons c cs => cases c <;> simp [toCells] at h; exact ⟨[_], by rw [h.2.2]; rfl⟩
  | bool => intro cs x r h; cases cs with
    | nil => simp [toCells] at h
    | cons c cs => cases c <;> simp [toCells] at h; exact ⟨[_], by rw [h.2]; rfl⟩
  | str => intro cs x r h; cases cs with
    | nil => simp [toCells] at h
    | cons c cs => cases c <;> simp [toCells] at h; exact ⟨[_], by rw [h.2]; rfl⟩
  | list t _ => intro cs x r h; cases cs with
    | nil => simp [toCells] at h
    | cons c cs => simp only [toCells] at h; split at h <;> cases h; exact ⟨[_], rfl⟩
  | olist t _ => intro cs x r h; cases cs with
    | nil => simp [toCells] at h
    | cons c cs => cases c <;> simp [toCells] at h
  | fn a b _ _ => intro cs x r h; cases cs with
    | nil => simp [toCells] at h
    | cons c cs => cases c <;> simp only [toCells] at h <;> first | cases h | skip
                   split at h
                   · cases h; exact ⟨[_], rfl⟩
                   · cases h
  | ref t _ => intro cs x r h; cases cs with
    | nil => simp [toCells] at h
    | cons c cs =>
      cases c with
      | el t' y off => cases off with
        | zero => simp only [toCells] at h; split at h <;> cases h; exact ⟨[_], rfl⟩
        | succ n => simp [toCells] at h
      | ptr k off => cases off with
        | zero =>
          simp only [toCells] at h
          split at h
          · split at h
            · split at h <;> cases h; exact ⟨[_], rfl⟩
            · cases h
          · cases h
        | succ n => simp [toCells] at h
      | _ => simp [toCells] at h

theorem toCells_on {S : Nat → Prop} {H H' : Heap} (h : On S H H') (t : Ty) : ∀ cs : List AV, (∀ k ∈ nmL cs, S k) → (noRef t = true ∨ ∀ k ∈ nmL cs, ∀ bs, hget H k = some (.box bs) → ∀ j ∈ nmL bs, S j) → toCells H' t cs = toCells H t cs := by
  induction t with
  | int k => intro cs _ _; cases cs with
    | nil => rfl
    | cons c cs => cases c <;> rfl
  | bool => intro cs _ _; cases cs with
    | nil => rfl
    | cons c cs => cases c <;> rfl
  | str => intro cs _ _; cases cs with
    | nil => rfl
    | cons c cs => cases c <;> rfl
  | list t _ => intro cs h1 _; cases cs with
    | nil => rfl
    | cons c cs => simp only [toCells, slOf_on h t c fun k hk => h1 k (by simp only [nmL, List.mem_append]; exact .inl hk)]
  | olist t _ => intro cs _ _; cases cs with
    | nil => rfl
    | cons c cs => cases c <;> rfl
  | unit => intro cs _ _; rfl
  | pair a b iha ihb =>
    intro cs h1 h2
    simp only [noRef, Bool.and_eq_true] at h2
    have e := iha cs h1 (h2.imp (·.1) id)
    simp only [toCells, e]
    cases hc : toCells H a cs with
    | none => rfl
    | some p =>
      obtain ⟨x, cs1⟩ := p
      obtain ⟨q, rfl⟩ := toCells_tail hc
      simp only
      rw [ihb cs1 (fun k hk => h1 k (by rw [nmL_app]; exact List.mem_append_right _ hk)) (h2.imp (·.2) fun h2 k hk => h2 k (by rw [nmL_app]; exact List.mem_append_right _ hk))]
  | fn a r _ _ => intro cs _ _; cases cs with
    | nil => rfl
    | cons c cs => cases c <;> rfl
  | ref t ih =>
    intro cs h1 h2
    cases cs with
    | nil => rfl
    | cons c cs =>
      cases c with
      | ptr k off =>
        cases off with
        | zero =>
          simp only [toCells]
          split
          · rename_i hnr
            have hk0 : k ∈ nmL (.ptr k 0 :: cs) := by simp [nmL, nm]
            have := h k (h1 k hk0)
            cases hk : hget H k with
            | none => rw [hk] at this; cases hk' : hget H' k with
              | none => rfl
              | some o => simp [hk', oSame] at this
            | some o => cases o with
              | box c => rw [hk] at this; cases hk' : hget H' k with
                | none => simp [hk', oSame] at this
                | some o => cases o with
                  | box c' =>
                    rw [hk'] at this; simp only [oSame] at this; subst this
                    have h2' : ∀ j ∈ nmL c, S j := by
                      rcases h2 with h2 | h2
                      · simp [noRef] at h2
                      · exact h2 k hk0 c hk
                    simp only [ih c h2' (.inl hnr)]
                  | row t' xs f => simp [hk', oSame] at this
              | row t' xs f => rw [hk] at this; simp only [oSame] at this; obtain ⟨f', e⟩ := this; rw [e]
          · rfl
        | succ n => rfl
      | el t x off => cases off <;> rfl
      | _ => rfl

theorem nm_cellsOf (v : AV) : nmL (cellsOf v) = nm v := by
  cases v <;> simp [cellsOf, nmL, nm]

/-- what is asked of a list of operands -/
def Reads (S : Nat → Prop) (H : Heap) (vs : List AV) : Prop := (∀ k ∈ nmL vs, S k) ∧ ∀ k ∈ nmL vs, ∀ bs, hget H k = some (.box bs) → ∀ j ∈ nmL bs, S j

def ReadsK (S : Nat → Prop) (H : Heap) (k : K) (vs : List AV) : Prop := (∀ k ∈ nmL vs, S k) ∧ (deep k = true → ∀ k ∈ nmL vs, ∀ bs, hget H k = some (.box bs) → ∀ j ∈ nmL bs, S j)

theorem Reads.cons {S : Nat → Prop} {H : Heap} {v : AV} {vs : List AV} (h : Reads S H (v :: vs)) : Reads S H [v] ∧ Reads S H vs := by
  obtain ⟨h1, h2⟩ := h
  simp only [nmL, List.mem_append] at h1 h2
  exact ⟨⟨fun k hk => h1 k (.inl (by simpa [nmL] using hk)), fun k hk => h2 k (.inl (by simpa [nmL] using hk))⟩, ⟨fun k hk => h1 k (.inr hk), fun k hk => h2 k (.inr hk)⟩⟩

theorem toV_on {S : Nat → Prop} {H H' : Heap} (h : On S H H') (t : Ty) (v : AV) (hv : Reads S H [v]) : toV H' t v = toV H t v := by
  have e := toCells_on h t [v] hv.1 (.inr hv.2)
  cases t <;> cases v <;> first | rfl | (simp only [toV, e]; done) | (rename_i cs; cases cs <;> rfl) | skip
  rename_i a b cs
  have e := toCells_on h (.pair a b) cs (by simpa [nmL, nm] using hv.1) (.inr (by simpa [nmL, nm] using hv.2))
  simp only [toV, e]
theorem toArgs0_on {S : Nat → Prop} {H H' : Heap} (h : On S H H') (a : Ty) : ∀ vs : List AV, Reads S H vs → toArgs0 H' a vs = toArgs0 H a vs := by
  induction a with
  | pair t b _ ih => intro vs hv; cases vs with
    | nil => rfl
    | cons v vs => simp only [toArgs0, toV_on h t v hv.cons.1, ih vs hv.cons.2]
  | _ => intro vs _; cases vs <;> rfl
theorem toP_on {S : Nat → Prop} {T : Tab} {H H' : Heap} (h : On S H H') (t : Ty) (v : AV) (hv : Reads S H [v]) : toP T H' t v = toP T H t v := by
  have hc : ∀ f caps, v = .clo f caps → Reads S H caps := fun f caps e => by subst e; simpa [Reads, nmL, nm] using hv
  cases t <;> cases v <;> simp only [toP, toV_on h _ _ hv]
  rename_i f caps
  have := hc f caps rfl
  simp only [toArgs0_on h _ _ this]
theorem toArgs_on {S : Nat → Prop} {T : Tab} {H H' : Heap} (h : On S H H') (a : Ty) : ∀ vs : List AV, Reads S H vs → toArgs T H' a vs = toArgs T H a vs := by
  induction a with
  | pair t b _ ih => intro vs hv; cases vs with
    | nil => rfl
    | cons v vs => simp only [toArgs, toP_on h t v hv.cons.1, ih vs hv.cons.2]
  | _ => intro vs _; cases vs <;> rfl
theorem dataAll_on {S : Nat → Prop} {H H' : Heap} (h : On S H H') (t : Ty) : ∀ vs : List AV, Reads S H vs → dataAll H' t vs = dataAll H t vs := by
  intro vs
  induction vs with
  | nil => intro _; rfl
  | cons v vs ih => intro hv; simp only [dataAll, toV_on h t v hv.cons.1, ih hv.cons.2]
theorem box_on {S : Nat → Prop} {H H' : Heap} (h : On S H H') {k : Nat} (hk : S k) {cs : List AV} : hget H' k = some (.box cs) ↔ hget H k = some (.box cs) := by
  have := h k hk
  cases h1 : hget H k with
  | none => rw [h1] at this; cases h2 : hget H' k with
    | none => simp
    | some o => simp [h2, oSame] at this
  | some o => cases o with
    | box c => rw [h1] at this; cases h2 : hget H' k with
      | none => simp [h2, oSame] at this
      | some o => cases o with
        | box c' => rw [h2] at this; simp only [oSame] at this; subst this; rfl
        | row t' xs f => simp [h2, oSame] at this
    | row t' xs f => rw [h1] at this; simp only [oSame] at this; obtain ⟨f', e⟩ := this; rw [e]; simp
theorem row_on {S : Nat → Prop} {H H' : Heap} (h : On S H H') {k : Nat} (hk : S k) {t : Ty} {xs : List (den t)} {f : Bool} (h1 : hget H k = some (.row t xs f)) : ∃ f', hget H' k = some (.row t xs f') := by
  have := h k hk
  rw [h1] at this
  simpa only [oSame] using this
end Go.AM
