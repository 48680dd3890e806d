import Derived.Test.YtbcbgfkojmligaaASwap3
/- Part of an abstract machine for Go code and of its soundness, for any program of the model; no condition. -/
set_option linter.unusedVariables false
set_option linter.unusedSimpArgs false
set_option linter.unusedSimpArgs false
set_option linter.constructorNameAsVariable false
namespace Go.AM

def TE.ts (t : TE) : TS := ⟨t.o.d, t.o.tmps, t.rd, t.wr, t.e.frz, t.kt⟩

theorem meets_iff {a b : List Nat} : meets a b = false ↔ ∀ k ∈ a, k ∉ b := by
  unfold meets
  rw [← Bool.not_eq_true, List.any_eq_true]
  constructor
  · intro h k ha hb; exact h ⟨k, hb, by simpa using ha⟩
  · rintro h ⟨k, hb, ha⟩; exact h k (by simpa using ha) hb

theorem ktGo_mem {ks : List Nat} {i k : Nat} (hk : k ∈ ks) : ∀ {e : Env}, k ∈ nm (eget e i) → i ∈ ktGo ks e := by
  intro e
  induction e with
  | nil => intro h; simp [eget, nm] at h
  | cons p e ih =>
    obtain ⟨j, v⟩ := p
    intro h
    simp only [eget] at h
    simp only [ktGo]
    by_cases hj : j = i
    · subst hj
      rw [if_pos rfl] at h
      have : meets ks (nm v) = true := by
        cases hm : meets ks (nm v) with
        | true => rfl
        | false => exact absurd h (meets_iff.1 hm k hk)
      rw [if_pos this]; exact List.mem_cons_self ..
    · rw [if_neg hj] at h
      split
      · exact List.mem_cons_of_mem _ (ih h)
      · exact ih h
theorem kbGo_mem {ks : List Nat} {i k : Nat} (hk : k ∈ ks) : ∀ {e : Heap}, k ∈ nmO (hget e i) → i ∈ kbGo ks e := by
  intro e
  induction e with
  | nil => intro h; simp [hget, nmO] at h
  | cons p e ih =>
    obtain ⟨j, v⟩ := p
    intro h
    simp only [hget] at h
    simp only [kbGo]
    by_cases hj : j = i
    · subst hj
      rw [if_pos rfl] at h
      have : meets ks (nmO (some v)) = true := by
        cases hm : meets ks (nmO (some v)) with
        | true => rfl
        | false => exact absurd h (meets_iff.1 hm k hk)
      rw [if_pos this]; exact List.mem_cons_self ..
    · rw [if_neg hj] at h
      split
      · exact List.mem_cons_of_mem _ (ih h)
      · exact ih h
theorem ktOf_mem {ks : List Nat} {i k : Nat} (hk : k ∈ ks) {e : Env} (h : k ∈ nm (eget e i)) : i ∈ ktOf e ks := by
  cases ks with
  | nil => cases hk
  | cons j ks => exact ktGo_mem hk h
theorem kbOf_mem {ks : List Nat} {i k : Nat} (hk : k ∈ ks) {e : Heap} (h : k ∈ nmO (hget e i)) : i ∈ kbOf e ks := by
  cases ks with
  | nil => cases hk
  | cons j ks => exact kbGo_mem hk h

theorem evTab_of {T : Tab} {b : List Nat} {K : St → Prop} : ∀ {os : List AOp} {σ : St} {acc : List TS}, evTab T b os σ acc K → ∃ ts : List TE, valid T σ ts ∧ ts.map (·.o) = os ∧ (∀ t ∈ ts, t.n) ∧ chk b ((ts.map TE.ts).reverse ++ acc) = true ∧ K (fin σ ts) := by
  intro os
  induction os with
  | nil => intro σ acc h; exact ⟨[], trivial, rfl, by simp, by simpa using h.1, h.2⟩
  | cons o os ih =>
    intro σ acc h
    simp only [evTab] at h
    split at h
    · rename_i n v e hev
      obtain ⟨ts, h1, h2, h3, h4, h5⟩ := ih h.2
      refine ⟨⟨o, n, v, e, rdOf σ o v e, ktOf σ.env e.del, kbOf σ.heap e.del⟩ :: ts, ⟨⟨hev, rfl, fun i k hk hn => ktOf_mem hk hn, fun i k hk hn => kbOf_mem hk hn⟩, h1⟩, by simp [h2], ?_, ?_, h5⟩
      · intro t ht
        rcases List.mem_cons.1 ht with rfl | ht
        · exact h.1
        · exact h3 t ht
      · simp only [List.map_cons, List.reverse_cons, List.append_assoc, List.singleton_append]
        exact h4
    · exact h.elim

theorem indB_ind {x y : TE} (h : indB x.ts y.ts = true) : Ind x y := by
  unfold indB TE.ts at h
  simp only [Bool.and_eq_true, Bool.not_eq_true', meets_iff] at h
  obtain ⟨a1, a2, a3, a4, a5, a6, a7, a8, a9, a10, a11, a12⟩ := h
  have isd : ∀ {d : Option Nat} {l : List Nat} {i : Nat}, isD d l = false → d = some i → i ∉ l := by
    intro d l i h e
    subst e
    simpa [isD] using h
  refine ⟨fun d hd => ⟨isd a1 hd, fun e => ?_, isd a3 hd⟩, fun d hd => ⟨isd a4 hd, isd a5 hd⟩, a6, a7, fun k hk => ⟨a8 k hk, a9 k hk, a10 k hk⟩, fun k hk => ⟨a11 k hk, a12 k hk⟩⟩
  rw [hd, e] at a2
  simp [sameD] at a2

def idx : Nat → List TE → List (Nat × TE)
  | _, [] => []
  | i, t :: ts => (i, t) :: idx (i + 1) ts
theorem idx_snd : ∀ {ts : List TE} {i : Nat}, (idx i ts).map (·.2) = ts := by
  intro ts
  induction ts with
  | nil => intro i; rfl
  | cons t ts ih => intro i; simp [idx, ih]
theorem idx_len : ∀ {ts : List TE} {i : Nat}, (idx i ts).length = ts.length := by
  intro ts
  induction ts with
  | nil => intro i; rfl
  | cons t ts ih => intro i; simp [idx, ih]
theorem idx_mem : ∀ {ts : List TE} {i : Nat} {p : Nat × TE}, p ∈ idx i ts → i ≤ p.1 ∧ ts[p.1 - i]? = some p.2 := by
  intro ts
  induction ts with
  | nil => intro i p h; cases h
  | cons t ts ih =>
    intro i p h
    rcases List.mem_cons.1 h with rfl | h
    · simp
    · obtain ⟨h1, h2⟩ := ih h
      refine ⟨by omega, ?_⟩
      have : p.1 - i = (p.1 - (i + 1)) + 1 := by omega
      rw [this]; simpa using h2
theorem idx_fst : ∀ {ts : List TE} {i k : Nat}, k ∈ (idx i ts).map (·.1) ↔ i ≤ k ∧ k < i + ts.length := by
  intro ts
  induction ts with
  | nil => intro i k; simp [idx]; try omega
  | cons t ts ih => intro i k; simp only [idx, List.map_cons, List.mem_cons, ih, List.length_cons]; omega
theorem idx_sort : ∀ {ts : List TE} {i : Nat}, (idx i ts).Pairwise fun p q => p.1 < q.1 := by
  intro ts
  induction ts with
  | nil => intro i; exact .nil
  | cons t ts ih => intro i; exact List.Pairwise.cons (fun q hq => by have := (idx_mem hq).1; simp only; omega) ih
theorem chkTail_mem {cl : List Nat} {i : Nat} {x : TE} : ∀ {ts : List TE} {j : Nat}, chkTail cl i x.ts j (ts.map TE.ts) = true → ∀ q ∈ idx j ts, (cl.getD q.1 0).testBit i = true ∨ Ind x q.2 := by
  intro ts
  induction ts with
  | nil => intro j _ q hq; cases hq
  | cons t ts ih =>
    intro j h q hq
    simp only [List.map_cons, chkTail, Bool.and_eq_true, Bool.or_eq_true] at h
    rcases List.mem_cons.1 hq with rfl | hq
    · exact h.1.imp id indB_ind
    · exact ih h.2 q hq
theorem chkGo_pw {cl : List Nat} : ∀ {ts : List TE} {i : Nat}, chkGo cl i (ts.map TE.ts) = true → (idx i ts).Pairwise fun p q => (cl.getD q.1 0).testBit p.1 = true ∨ Ind p.2 q.2 := by
  intro ts
  induction ts with
  | nil => intro i _; exact .nil
  | cons t ts ih =>
    intro i h
    simp only [List.map_cons, chkGo, Bool.and_eq_true] at h
    exact List.Pairwise.cons (chkTail_mem h.1) (ih h.2)

theorem evTab_any {T : Tab} {b : List Nat} {K : St → Prop} {ops : List AOp} {σ : St} (h : evTab T b ops σ [] K) : anyOps T ops b ops.length (ops.map fun _ => false) σ (fun σ' => ∃ σf, Eqv σf σ' ∧ K σf) := by
  obtain ⟨ts, h1, h2, h3, h4, h5⟩ := evTab_of h
  unfold chk at h4
  simp only [Bool.and_eq_true, beq_iff_eq, List.append_nil, List.length_reverse, List.reverse_reverse, List.length_map] at h4
  obtain ⟨c1, c2, c3, c4⟩ := h4
  have hlen : ts.length = ops.length := by rw [← h2]; simp
  have := anyOps_of (T := T) (ops := ops) c1 c2 (n := ops.length) (listed := ops.map fun _ => false) (l := idx 0 ts) (σ := σ) (by rw [idx_len, hlen]; exact Nat.le_refl _)
    (fun p hp => by
      have := (idx_mem hp).2
      rw [← h2, List.getElem?_map]
      simp only [Nat.sub_zero] at this
      rw [this]; rfl) idx_sort (fun i => by
      rw [idx_fst, List.getElem?_map]
      constructor
      · intro h
        cases hg : ops[i]? with
        | none => rw [hg] at h; cases h
        | some o => have := (List.getElem?_eq_some_iff.1 hg).1; omega
      · rintro ⟨_, h⟩
        have hi : i < ops.length := by omega
        rw [List.getElem?_eq_getElem hi]; rfl) (fun i hi => by
      rw [List.getElem?_map] at hi
      cases hg : ops[i]? with
      | none => rw [hg] at hi; cases hi
      | some o => rw [hg] at hi; cases hi) (chkGo_pw c4) (fun p hp => h3 _ (by
      have := (idx_mem hp).2
      exact List.mem_of_getElem? this)) (by rw [idx_snd]; exact h1)
  rw [idx_snd] at this
  exact anyOps_mono (fun σ' e => ⟨_, e, h5⟩) this
end Go.AM
