import Derived.Test.YtbcbgfkojmligaaASwap2
/- Part of an abstract machine for Go code and of its soundness, for any program of the model; no condition. -/
set_option linter.unusedVariables false
set_option linter.unusedSimpArgs false
set_option linter.unusedSimpArgs false
set_option linter.constructorNameAsVariable false
namespace Go.AM

def valid (T : Tab) : St → List TE → Prop
  | _, [] => True
  | σ, t :: ts => t.OK T σ ∧ valid T (t.step σ) ts
def fin : St → List TE → St
  | σ, [] => σ
  | σ, t :: ts => fin (t.step σ) ts

theorem OK.eqv {T : Tab} {σ σ' : St} {t : TE} (h : t.OK T σ) (e : Eqv σ σ') : t.OK T σ' :=
  OK_of h (fun t _ => e.1 t) (fun d _ => by rw [e.1 d]) (fun k _ => by rw [e.2 k]; exact oSame.refl _) (fun k _ => e.2 k) (fun i k hk hn => h.kt i k hk (by rw [← e.1 i]; exact hn)) (fun i k hk hn => h.kb i k hk (by rw [← e.2 i]; exact hn))
theorem step_eqv {σ σ' : St} (t : TE) (e : Eqv σ σ') : Eqv (t.step σ) (t.step σ') := by
  constructor
  · intro i; simp only [TE.step, eget_upd, e.1 i]
  · intro k; simp only [TE.step, hget_upd, e.2 k]
theorem valid_eqv {T : Tab} : ∀ {ts : List TE} {σ σ' : St}, valid T σ ts → Eqv σ σ' → valid T σ' ts ∧ Eqv (fin σ ts) (fin σ' ts) := by
  intro ts
  induction ts with
  | nil => intro σ σ' _ e; exact ⟨trivial, e⟩
  | cons t ts ih =>
    intro σ σ' h e
    obtain ⟨h1, h2⟩ := ih h.2 (step_eqv t e)
    exact ⟨⟨OK.eqv h.1 e, h1⟩, h2⟩

theorem front {T : Tab} {i : TE} {l2 : List TE} : ∀ {l1 : List TE} {σ : St}, valid T σ (l1 ++ i :: l2) → (∀ x ∈ l1, Ind x i) → i.OK T σ ∧ valid T (i.step σ) (l1 ++ l2) ∧ Eqv (fin σ (l1 ++ i :: l2)) (fin (i.step σ) (l1 ++ l2)) := by
  intro l1
  induction l1 with
  | nil => intro σ h _; exact ⟨h.1, h.2, Eqv.refl _⟩
  | cons x l ih =>
    intro σ h hi
    obtain ⟨hx, hr⟩ := h
    obtain ⟨h1, h2, h3⟩ := ih hr fun y hy => hi y (List.mem_cons_of_mem _ hy)
    have hind := hi x (List.mem_cons_self ..)
    have hiσ := ahead hx h1 hind
    have hxi := behind hx hiσ hind
    have e := (swap_eqv hx hiσ hind).symm
    obtain ⟨h4, h5⟩ := valid_eqv h2 e
    exact ⟨hiσ, ⟨hxi, h4⟩, h3.trans h5⟩

theorem anyOps_mono {T : Tab} {ops : List AOp} {b : List Nat} {K K' : St → Prop} (hK : ∀ σ, K σ → K' σ) : ∀ {n : Nat} {listed : List Bool} {σ : St}, anyOps T ops b n listed σ K → anyOps T ops b n listed σ K' := by
  intro n
  induction n with
  | zero => intro listed σ h; exact hK _ h
  | succ n ih =>
    intro listed σ h
    exact ⟨fun hr => hK _ (h.1 hr), fun i o ho hl hj => bind_mono (h.2 i o ho hl hj) fun nd v e hh => ⟨hh.1, ih hh.2⟩⟩

/-! ### the edges, closed -/
theorem orAt_bit {j m : Nat} : ∀ {cs : List Nat} {i : Nat}, (orAt cs m i).testBit j = true → ∃ p, i ≤ p ∧ m.testBit p = true ∧ (cs.getD (p - i) 0).testBit j = true := by
  intro cs
  induction cs with
  | nil => intro i h; simp [orAt] at h
  | cons c cs ih =>
    intro i h
    simp only [orAt, Nat.testBit_or, Bool.or_eq_true] at h
    rcases h with h | h
    · split at h
      · rename_i hm; exact ⟨i, Nat.le_refl _, hm, by simpa using h⟩
      · simp at h
    · obtain ⟨p, h1, h2, h3⟩ := ih h
      refine ⟨p, by omega, h2, ?_⟩
      have : p - i = (p - (i + 1)) + 1 := by omega
      rw [this]; simpa using h3

theorem clOK_bit {b cl : List Nat} (h : clOK b cl = true) {i j : Nat} (hj : (cl.getD i 0).testBit j = true) : bitIn (b.getD i 0) j = true ∨ ∃ p, bitIn (b.getD i 0) p = true ∧ (cl.getD p 0).testBit j = true := by
  unfold clOK at h
  simp only [Bool.and_eq_true, beq_iff_eq, List.all_eq_true] at h
  obtain ⟨hl, h⟩ := h
  by_cases hi : i < cl.length
  · have hi' : i < b.length := by omega
    have hm : (b[i], cl[i]) ∈ b.zip cl := by
      rw [List.mem_iff_getElem]
      exact ⟨i, by simp; omega, by simp⟩
    have := h _ hm
    simp only at this
    have e1 : cl.getD i 0 = cl[i] := by simp [List.getD, hi]
    have e2 : b.getD i 0 = b[i] := by simp [List.getD, hi']
    rw [e1, this, Nat.testBit_or, Bool.or_eq_true] at hj
    rw [e2]
    rcases hj with hj | hj
    · exact .inl hj
    · obtain ⟨p, _, h2, h3⟩ := orAt_bit hj
      exact .inr ⟨p, h2, by simpa using h3⟩
  · have e1 : cl.getD i 0 = 0 := by simp [List.getD, List.getElem?_eq_none (Nat.le_of_not_lt hi)]
    rw [e1] at hj
    simp at hj

theorem lowB_bit : ∀ {b : List Nat} {i : Nat}, lowB i b = true → ∀ k j, bitIn (b.getD k 0) j = true → j < i + k := by
  intro b
  induction b with
  | nil => intro i _ k j h; simp [bitIn] at h
  | cons m ms ih =>
    intro i h k j hj
    simp only [lowB, Bool.and_eq_true, decide_eq_true_eq] at h
    cases k with
    | zero =>
      simp only [List.getD_cons_zero, bitIn] at hj
      have := Nat.ge_two_pow_of_testBit hj
      have : 2 ^ j < 2 ^ i := by omega
      have := (Nat.pow_lt_pow_iff_right (by omega : 1 < 2)).1 this
      omega
    | succ k =>
      simp only [List.getD_cons_succ] at hj
      have := ih h.2 k j hj
      omega

theorem closed {b cl : List Nat} (h : clOK b cl = true) (hl : lowB 0 b = true) {L : Nat → Prop} (hL : ∀ i, L i → ∀ j, bitIn (b.getD i 0) j = true → L j) :
    ∀ (n i : Nat), i ≤ n → (∀ j, bitIn (b.getD i 0) j = true → L j) → ∀ j, (cl.getD i 0).testBit j = true → L j := by
  intro n
  induction n with
  | zero =>
    intro i hi hd j hj
    rcases clOK_bit h hj with h1 | ⟨p, h1, h2⟩
    · exact hd j h1
    · have := lowB_bit hl i p h1; omega
  | succ n ih =>
    intro i hi hd j hj
    rcases clOK_bit h hj with h1 | ⟨p, h1, h2⟩
    · exact hd j h1
    · have hp := lowB_bit hl i p h1
      exact ih p (by omega) (fun q hq => hL p (hd p h1) q hq) j h2

/-- Every order comes to one end. -/
theorem anyOps_of {T : Tab} {ops : List AOp} {b cl : List Nat} (hcl : clOK b cl = true) (hlow : lowB 0 b = true) :
    ∀ {n : Nat} {listed : List Bool} {l : List (Nat × TE)} {σ : St}, l.length ≤ n → (∀ p ∈ l, ops[p.1]? = some p.2.o) → l.Pairwise (fun p q => p.1 < q.1) → (∀ i : Nat, listed[i]? = some false ↔ i ∈ l.map (·.1)) →
      (∀ i : Nat, listed[i]? = some true → ∀ j, bitIn (b.getD i 0) j = true → listed.getD j false = true) → l.Pairwise (fun p q => (cl.getD q.1 0).testBit p.1 = true ∨ Ind p.2 q.2) → (∀ p ∈ l, p.2.n) →
      valid T σ (l.map (·.2)) → anyOps T ops b n listed σ (Eqv (fin σ (l.map (·.2)))) := by
  intro n
  induction n with
  | zero =>
    intro listed l σ hn _ _ _ _ _ _ _
    cases l with
    | nil => exact Eqv.refl _
    | cons p l => simp at hn
  | succ n ih =>
    intro listed l σ hn hops hsort hun hdown hpw hneed hval
    refine ⟨fun hr => ?_, fun i o ho hi hj => ?_⟩
    · cases l with
      | nil => exact Eqv.refl _
      | cons p l =>
        exfalso
        have hp : listed[p.1]? = some false := (hun p.1).2 (by simp)
        obtain ⟨j, h1, h2⟩ := hr p.1 hp
        have hlt := lowB_bit hlow p.1 j h1
        have hlen := (List.getElem?_eq_some_iff.1 hp).1
        have hjl : j < listed.length := by omega
        have hjf : listed[j]? = some false := by
          rw [List.getD_eq_getElem?_getD, List.getElem?_eq_getElem hjl] at h2
          rw [List.getElem?_eq_getElem hjl]
          simpa using h2
        have := (hun j).1 hjf
        simp only [List.map_cons, List.mem_cons] at this
        rcases this with rfl | hm
        · omega
        · obtain ⟨q, hq, rfl⟩ := List.mem_map.1 hm
          have := (List.pairwise_cons.1 hsort).1 q hq
          omega
    · obtain ⟨p, hp, rfl⟩ := List.mem_map.1 ((hun i).1 hi)
      obtain ⟨l1, l2, rfl⟩ := List.append_of_mem hp
      have hop := hops p hp
      rw [ho] at hop
      cases hop
      have hcl1 : ∀ j, (cl.getD p.1 0).testBit j = true → listed.getD j false = true := by
        refine closed hcl hlow (L := fun j => listed.getD j false = true) (fun q hq j hj => ?_) p.1 p.1 (Nat.le_refl _) hj
        refine hdown q ?_ j hj
        rw [List.getD_eq_getElem?_getD] at hq
        cases hg : listed[q]? with
        | none => rw [hg] at hq; simp at hq
        | some c => rw [hg] at hq; simp at hq; rw [hq]
      have hpw' := List.pairwise_append.1 hpw
      have hind : ∀ x ∈ l1.map (·.2), Ind x p.2 := by
        intro x hx
        obtain ⟨q, hq, rfl⟩ := List.mem_map.1 hx
        rcases hpw'.2.2 q hq p (List.mem_cons_self ..) with h | h
        · exfalso
          have h1 := hcl1 q.1 h
          have h2 : listed[q.1]? = some false := (hun q.1).2 (List.mem_map.2 ⟨q, List.mem_append_left _ hq, rfl⟩)
          rw [List.getD_eq_getElem?_getD, h2] at h1
          cases h1
        · exact h
      rw [List.map_append, List.map_cons] at hval
      obtain ⟨h1, h2, h3⟩ := front hval hind
      rw [h1.ev]
      refine ⟨hneed p hp, ?_⟩
      rw [List.map_append, List.map_cons]
      have hs' := List.pairwise_append.1 hsort
      have hi' : p.1 < listed.length := (List.getElem?_eq_some_iff.1 hi).1
      refine anyOps_mono (K := Eqv (fin (p.2.step σ) ((l1 ++ l2).map (·.2)))) (fun σ' h => (h3.trans (by rw [List.map_append] at h; exact h))) ?_
      refine ih (by simp at hn ⊢; omega) (fun q hq => hops q ?_) ?_ (fun j => ?_) (fun j hjt k hk => ?_) ?_ (fun q hq => hneed q ?_) (by rw [List.map_append]; exact h2)
      · rcases List.mem_append.1 hq with h | h
        · exact List.mem_append_left _ h
        · exact List.mem_append_right _ (List.mem_cons_of_mem _ h)
      · exact List.pairwise_append.2 ⟨hs'.1, (List.pairwise_cons.1 hs'.2.1).2, fun a ha c hc => hs'.2.2 a ha c (List.mem_cons_of_mem _ hc)⟩
      · by_cases e : j = p.1
        · subst e
          rw [List.getElem?_set_self hi']
          refine ⟨fun h => (by cases h), fun h => ?_⟩
          exfalso
          rw [List.map_append, List.mem_append] at h
          rcases h with h | h
          · obtain ⟨q, hq, he⟩ := List.mem_map.1 h
            have := hs'.2.2 q hq p (List.mem_cons_self ..)
            omega
          · obtain ⟨q, hq, he⟩ := List.mem_map.1 h
            have := (List.pairwise_cons.1 hs'.2.1).1 q hq
            omega
        · rw [List.getElem?_set_ne (fun h => e h.symm), hun j]
          simp only [List.map_append, List.map_cons, List.mem_append, List.mem_cons, e, false_or]
      · have set1 : ∀ q, listed.getD q false = true → (listed.set p.1 true).getD q false = true := by
          intro q hq
          rw [List.getD_eq_getElem?_getD] at hq ⊢
          by_cases e : p.1 = q
          · subst e; rw [List.getElem?_set_self hi']; rfl
          · rw [List.getElem?_set_ne e]; exact hq
        by_cases e : j = p.1
        · subst e; exact set1 k (hj k hk)
        · rw [List.getElem?_set_ne (fun h => e h.symm)] at hjt
          exact set1 k (hdown j hjt k hk)
      · exact List.pairwise_append.2 ⟨hpw'.1, (List.pairwise_cons.1 hpw'.2.1).2, fun a ha c hc => hpw'.2.2 a ha c (List.mem_cons_of_mem _ hc)⟩
      · rcases List.mem_append.1 hq with h | h
        · exact List.mem_append_left _ h
        · exact List.mem_append_right _ (List.mem_cons_of_mem _ h)
end Go.AM
